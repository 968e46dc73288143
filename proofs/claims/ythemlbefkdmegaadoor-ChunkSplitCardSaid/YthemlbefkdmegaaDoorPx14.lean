/- Printed by a program of the session out of the translation: plain Lean functions, each with the contract that the Go function computes it. -/
import Derived.Test.YthemlbefkdmegaaDoorPx0
import Derived.Test.YthemlbefkdmegaaDoorPx1
import Derived.Test.YthemlbefkdmegaaDoorPx3
import Derived.Test.YthemlbefkdmegaaDoorPx20
import Derived.Test.YthemlbefkdmegaaDoorHU2
import Derived.Test.YthemlbefkdmegaaDoorHX5
namespace Go.Proofs.YthemlbefkdmegaaDoor.P
open Go.RowKit Go.Proofs.YthemlbefkdmegaaDoorW.PrintWords Go.Proofs.YthemlbefkdmegaaDoorW.PrintLast Go.Proofs.YthemlbefkdmegaaDoorW.PrintMore
attribute [local go_sem] max2_int min2_int max_two min_two max_three min_three max_four min_four   -- for this text's walks alone
set_option linter.unusedVariables false
set_option linter.unusedSimpArgs false

attribute [local go_sem high] eqA23
/-! ### lockagelaw08_ChunkSplit: function 7 -/
mutual
def lockagelaw08_ChunkSplit.l0 : Nat → List Int → Bool → ByteArray → Int → ByteArray → Int → Int → ByteArray → Int → Int → Int → Int → ByteArray → Int → Int → Int → ByteArray → Int → Option (Bool)
  | 0, _, _, _, _, _, _, _, _, _, _, _, _, _, _, _, _, _, _ => none
  | k + 1, x1, x5, x6, x8, x9, x10, x12, x13, x14, x15, x250000, x250001, x250002, x250003, x251000, x251001, x251002, x251003 => if x12 < (x6.size : Int) then (if x14 = 0 then (lockagelaw08_ChunkSplit.j1 k x1 x5 x6 x8 x9 x10 x12 x13 x14 x15 (x251000 != 4) x250000 x250001 x250002 x250003 x251000 x251001 x251002 x251003) else (lockagelaw08_ChunkSplit.j1 k x1 x5 x6 x8 x9 x10 x12 x13 x14 x15 false x250000 x250001 x250002 x250003 x251000 x251001 x251002 x251003)) else (lockagelaw08_ChunkSplit.j1 k x1 x5 x6 x8 x9 x10 x12 x13 x14 x15 false x250000 x250001 x250002 x250003 x251000 x251001 x251002 x251003)
def lockagelaw08_ChunkSplit.j1 : Nat → List Int → Bool → ByteArray → Int → ByteArray → Int → Int → ByteArray → Int → Int → Bool → Int → Int → ByteArray → Int → Int → Int → ByteArray → Int → Option (Bool)
  | 0, _, _, _, _, _, _, _, _, _, _, _, _, _, _, _, _, _, _, _ => none
  | k + 1, x1, x5, x6, x8, x9, x10, x12, x13, x14, x15, x47, x250000, x250001, x250002, x250003, x251000, x251001, x251002, x251003 => if x47 = true then (if x15 < (x1.length : Int) then (lockagelaw08_ChunkSplit.j2 k x1 x5 x6 x8 x9 x10 x12 x13 x15 1 (decide (x15 < 200)) x250000 x250001 x250002 x250003 x251000 x251001 x251002 x251003) else (lockagelaw08_ChunkSplit.j2 k x1 x5 x6 x8 x9 x10 x12 x13 x15 1 false x250000 x250001 x250002 x250003 x251000 x251001 x251002 x251003)) else (if x5 = true then (if x10 = x14 then (if x10 = 0 then (if (x250000 == x251000 && (x250001 == x251001 && (x250002.toList == x251002.toList && (x250003 == x251003)))) = true then (if x8 = x12 then (some (x9.toList == x13.toList)) else (none)) else (none)) else (some true)) else (none)) else (none))
def lockagelaw08_ChunkSplit.j2 : Nat → List Int → Bool → ByteArray → Int → ByteArray → Int → Int → ByteArray → Int → Int → Bool → Int → Int → ByteArray → Int → Int → Int → ByteArray → Int → Option (Bool)
  | 0, _, _, _, _, _, _, _, _, _, _, _, _, _, _, _, _, _, _, _ => none
  | k + 1, x1, x5, x6, x8, x9, x10, x12, x13, x15, x16, x57, x250000, x250001, x250002, x250003, x251000, x251001, x251002, x251003 => if x57 = true then (if 0 ≤ x15 then (if x15 < (x1.length : Int) then (lockagelaw08_ChunkSplit.j3 k x1 x5 x6 x8 x9 x10 x12 x13 x15 (Int.tmod (wrap64 (rd x1 x15)) 8) x250000 x250001 x250002 x250003 x251000 x251001 x251002 x251003) else (none)) else (none)) else (lockagelaw08_ChunkSplit.j3 k x1 x5 x6 x8 x9 x10 x12 x13 x15 x16 x250000 x250001 x250002 x250003 x251000 x251001 x251002 x251003)
def lockagelaw08_ChunkSplit.j3 : Nat → List Int → Bool → ByteArray → Int → ByteArray → Int → Int → ByteArray → Int → Int → Int → Int → ByteArray → Int → Int → Int → ByteArray → Int → Option (Bool)
  | 0, _, _, _, _, _, _, _, _, _, _, _, _, _, _, _, _, _, _ => none
  | k + 1, x1, x5, x6, x8, x9, x10, x12, x13, x15, x16, x250000, x250001, x250002, x250003, x251000, x251001, x251002, x251003 => if 0 ≤ x12 then (if x12 ≤ (mn (x6.size : Int) (wrap64 (x12 + x16))) then (if (mn (x6.size : Int) (wrap64 (x12 + x16))) ≤ (x6.size : Int) then ((chunk_Feed.f k x251000 x251001 x251002 x251003 (x6.extract (x12 : Int).toNat ((mn (x6.size : Int) (wrap64 (x12 + x16))) : Int).toNat)).bind fun bt252 => (if bt252.2.2.2.2.2.2 = 0 then (if bt252.2.2.2.2.1 < 0 then (lockagelaw08_ChunkSplit.j4 k x1 x5 x6 x8 x9 x10 x12 x13 x15 bt252.2.2.2.2.1 bt252.2.2.2.2.2.1 bt252.2.2.2.2.2.2 true x250000 x250001 x250002 x250003 bt252.1 bt252.2.1 bt252.2.2.1 bt252.2.2.2.1) else (if bt252.2.2.2.2.1 > (wrap64 ((mn (x6.size : Int) (wrap64 (x12 + x16))) - x12)) then (lockagelaw08_ChunkSplit.j4 k x1 x5 x6 x8 x9 x10 x12 x13 x15 bt252.2.2.2.2.1 bt252.2.2.2.2.2.1 bt252.2.2.2.2.2.2 true x250000 x250001 x250002 x250003 bt252.1 bt252.2.1 bt252.2.2.1 bt252.2.2.2.1) else (if bt252.2.2.2.2.1 < (wrap64 ((mn (x6.size : Int) (wrap64 (x12 + x16))) - x12)) then (lockagelaw08_ChunkSplit.j4 k x1 x5 x6 x8 x9 x10 x12 x13 x15 bt252.2.2.2.2.1 bt252.2.2.2.2.2.1 bt252.2.2.2.2.2.2 (bt252.1 != 4) x250000 x250001 x250002 x250003 bt252.1 bt252.2.1 bt252.2.2.1 bt252.2.2.2.1) else (lockagelaw08_ChunkSplit.j4 k x1 x5 x6 x8 x9 x10 x12 x13 x15 bt252.2.2.2.2.1 bt252.2.2.2.2.2.1 bt252.2.2.2.2.2.2 false x250000 x250001 x250002 x250003 bt252.1 bt252.2.1 bt252.2.2.1 bt252.2.2.2.1)))) else (lockagelaw08_ChunkSplit.j4 k x1 x5 x6 x8 x9 x10 x12 x13 x15 bt252.2.2.2.2.1 bt252.2.2.2.2.2.1 bt252.2.2.2.2.2.2 false x250000 x250001 x250002 x250003 bt252.1 bt252.2.1 bt252.2.2.1 bt252.2.2.2.1))) else (none)) else (none)) else (none)
def lockagelaw08_ChunkSplit.j4 : Nat → List Int → Bool → ByteArray → Int → ByteArray → Int → Int → ByteArray → Int → Int → ByteArray → Int → Bool → Int → Int → ByteArray → Int → Int → Int → ByteArray → Int → Option (Bool)
  | 0, _, _, _, _, _, _, _, _, _, _, _, _, _, _, _, _, _, _, _, _, _ => none
  | k + 1, x1, x5, x6, x8, x9, x10, x12, x13, x15, x19, x20, x21, x105, x250000, x250001, x250002, x250003, x260000, x260001, x260002, x260003 => if x105 = true then (none) else (if x13.size + x20.size ≤ 9223372036854775807 then (if x15 > 1000 then (none) else (lockagelaw08_ChunkSplit.l0 k x1 x5 x6 x8 x9 x10 (wrap64 (x12 + x19)) (x13 ++ x20) x21 (wrap64 (x15 + 1)) x250000 x250001 x250002 x250003 x260000 x260001 x260002 x260003)) else (none))
end
def lockagelaw08_ChunkSplit.f (k : Nat) (l0 : List Int) (l1 : List Int) : Option (Bool) := (lockagelaw08_awake.f k).bind fun t240 => (if t240 = true then ((lockagelaw08_Pieces.f k l0).bind fun t241 => ((chunk_Feed.f k 0 0 (⟨#[]⟩ : ByteArray) 0 t241).bind fun bt242 => (lockagelaw08_ChunkSplit.l0 k l1 t240 t241 bt242.2.2.2.2.1 bt242.2.2.2.2.2.1 bt242.2.2.2.2.2.2 0 (⟨#[]⟩ : ByteArray) 0 0 bt242.1 bt242.2.1 bt242.2.2.1 bt242.2.2.2.1 0 0 (⟨#[]⟩ : ByteArray) 0))) else (none))
theorem lockagelaw08_ChunkSplit.mono_l : ∀ k, (∀ y0 y1 y2 y3 y4 y5 y6 y7 y8 y9 y10 y11 y12 y13 y14 y15 y16 y17, LeO (lockagelaw08_ChunkSplit.l0 k y0 y1 y2 y3 y4 y5 y6 y7 y8 y9 y10 y11 y12 y13 y14 y15 y16 y17) (lockagelaw08_ChunkSplit.l0 (k + 1) y0 y1 y2 y3 y4 y5 y6 y7 y8 y9 y10 y11 y12 y13 y14 y15 y16 y17)) ∧ (∀ y0 y1 y2 y3 y4 y5 y6 y7 y8 y9 y10 y11 y12 y13 y14 y15 y16 y17 y18, LeO (lockagelaw08_ChunkSplit.j1 k y0 y1 y2 y3 y4 y5 y6 y7 y8 y9 y10 y11 y12 y13 y14 y15 y16 y17 y18) (lockagelaw08_ChunkSplit.j1 (k + 1) y0 y1 y2 y3 y4 y5 y6 y7 y8 y9 y10 y11 y12 y13 y14 y15 y16 y17 y18)) ∧ (∀ y0 y1 y2 y3 y4 y5 y6 y7 y8 y9 y10 y11 y12 y13 y14 y15 y16 y17 y18, LeO (lockagelaw08_ChunkSplit.j2 k y0 y1 y2 y3 y4 y5 y6 y7 y8 y9 y10 y11 y12 y13 y14 y15 y16 y17 y18) (lockagelaw08_ChunkSplit.j2 (k + 1) y0 y1 y2 y3 y4 y5 y6 y7 y8 y9 y10 y11 y12 y13 y14 y15 y16 y17 y18)) ∧ (∀ y0 y1 y2 y3 y4 y5 y6 y7 y8 y9 y10 y11 y12 y13 y14 y15 y16 y17, LeO (lockagelaw08_ChunkSplit.j3 k y0 y1 y2 y3 y4 y5 y6 y7 y8 y9 y10 y11 y12 y13 y14 y15 y16 y17) (lockagelaw08_ChunkSplit.j3 (k + 1) y0 y1 y2 y3 y4 y5 y6 y7 y8 y9 y10 y11 y12 y13 y14 y15 y16 y17)) ∧ (∀ y0 y1 y2 y3 y4 y5 y6 y7 y8 y9 y10 y11 y12 y13 y14 y15 y16 y17 y18 y19 y20, LeO (lockagelaw08_ChunkSplit.j4 k y0 y1 y2 y3 y4 y5 y6 y7 y8 y9 y10 y11 y12 y13 y14 y15 y16 y17 y18 y19 y20) (lockagelaw08_ChunkSplit.j4 (k + 1) y0 y1 y2 y3 y4 y5 y6 y7 y8 y9 y10 y11 y12 y13 y14 y15 y16 y17 y18 y19 y20))
  | 0 => ⟨fun _ _ _ _ _ _ _ _ _ _ _ _ _ _ _ _ _ _ r h => by simp [lockagelaw08_ChunkSplit.l0] at h, fun _ _ _ _ _ _ _ _ _ _ _ _ _ _ _ _ _ _ _ r h => by simp [lockagelaw08_ChunkSplit.j1] at h, fun _ _ _ _ _ _ _ _ _ _ _ _ _ _ _ _ _ _ _ r h => by simp [lockagelaw08_ChunkSplit.j2] at h, fun _ _ _ _ _ _ _ _ _ _ _ _ _ _ _ _ _ _ r h => by simp [lockagelaw08_ChunkSplit.j3] at h, fun _ _ _ _ _ _ _ _ _ _ _ _ _ _ _ _ _ _ _ _ _ r h => by simp [lockagelaw08_ChunkSplit.j4] at h⟩
  | k + 1 => by
    obtain ⟨ih0, ih1, ih2, ih3, ih4⟩ := lockagelaw08_ChunkSplit.mono_l k
    refine ⟨?_, ?_, ?_, ?_, ?_⟩
    · intro y0 y1 y2 y3 y4 y5 y6 y7 y8 y9 y10 y11 y12 y13 y14 y15 y16 y17
      unfold lockagelaw08_ChunkSplit.l0
      repeat' first
      | (with_reducible exact ih0 _ _ _ _ _ _ _ _ _ _ _ _ _ _ _ _ _ _)
      | (with_reducible exact ih1 _ _ _ _ _ _ _ _ _ _ _ _ _ _ _ _ _ _ _)
      | (with_reducible exact ih2 _ _ _ _ _ _ _ _ _ _ _ _ _ _ _ _ _ _ _)
      | (with_reducible exact ih3 _ _ _ _ _ _ _ _ _ _ _ _ _ _ _ _ _ _)
      | (with_reducible exact ih4 _ _ _ _ _ _ _ _ _ _ _ _ _ _ _ _ _ _ _ _ _)
      | (with_reducible exact chunk_Feed.mono _ _ _ _ _ _)
      | (with_reducible exact lockagelaw08_Pieces.mono _ _)
      | (with_reducible exact lockagelaw08_awake.mono _)
      | (with_reducible exact LeO.refl _)
      | (with_reducible exact LeO.none _)
      | (with_reducible refine LeO.ite ?_ ?_)
      | (with_reducible refine LeO.bind ?_ (fun _ => ?_))
      | exact ih0 _ _ _ _ _ _ _ _ _ _ _ _ _ _ _ _ _ _
      | exact ih1 _ _ _ _ _ _ _ _ _ _ _ _ _ _ _ _ _ _ _
      | exact ih2 _ _ _ _ _ _ _ _ _ _ _ _ _ _ _ _ _ _ _
      | exact ih3 _ _ _ _ _ _ _ _ _ _ _ _ _ _ _ _ _ _
      | exact ih4 _ _ _ _ _ _ _ _ _ _ _ _ _ _ _ _ _ _ _ _ _
      | exact chunk_Feed.mono _ _ _ _ _ _
      | exact lockagelaw08_Pieces.mono _ _
      | exact lockagelaw08_awake.mono _
      | exact LeO.none _
      | refine LeO.ite ?_ ?_
      | refine LeO.bind ?_ (fun _ => ?_)
    · intro y0 y1 y2 y3 y4 y5 y6 y7 y8 y9 y10 y11 y12 y13 y14 y15 y16 y17 y18
      unfold lockagelaw08_ChunkSplit.j1
      repeat' first
      | (with_reducible exact ih0 _ _ _ _ _ _ _ _ _ _ _ _ _ _ _ _ _ _)
      | (with_reducible exact ih1 _ _ _ _ _ _ _ _ _ _ _ _ _ _ _ _ _ _ _)
      | (with_reducible exact ih2 _ _ _ _ _ _ _ _ _ _ _ _ _ _ _ _ _ _ _)
      | (with_reducible exact ih3 _ _ _ _ _ _ _ _ _ _ _ _ _ _ _ _ _ _)
      | (with_reducible exact ih4 _ _ _ _ _ _ _ _ _ _ _ _ _ _ _ _ _ _ _ _ _)
      | (with_reducible exact chunk_Feed.mono _ _ _ _ _ _)
      | (with_reducible exact lockagelaw08_Pieces.mono _ _)
      | (with_reducible exact lockagelaw08_awake.mono _)
      | (with_reducible exact LeO.refl _)
      | (with_reducible exact LeO.none _)
      | (with_reducible refine LeO.ite ?_ ?_)
      | (with_reducible refine LeO.bind ?_ (fun _ => ?_))
      | exact ih0 _ _ _ _ _ _ _ _ _ _ _ _ _ _ _ _ _ _
      | exact ih1 _ _ _ _ _ _ _ _ _ _ _ _ _ _ _ _ _ _ _
      | exact ih2 _ _ _ _ _ _ _ _ _ _ _ _ _ _ _ _ _ _ _
      | exact ih3 _ _ _ _ _ _ _ _ _ _ _ _ _ _ _ _ _ _
      | exact ih4 _ _ _ _ _ _ _ _ _ _ _ _ _ _ _ _ _ _ _ _ _
      | exact chunk_Feed.mono _ _ _ _ _ _
      | exact lockagelaw08_Pieces.mono _ _
      | exact lockagelaw08_awake.mono _
      | exact LeO.none _
      | refine LeO.ite ?_ ?_
      | refine LeO.bind ?_ (fun _ => ?_)
    · intro y0 y1 y2 y3 y4 y5 y6 y7 y8 y9 y10 y11 y12 y13 y14 y15 y16 y17 y18
      unfold lockagelaw08_ChunkSplit.j2
      repeat' first
      | (with_reducible exact ih0 _ _ _ _ _ _ _ _ _ _ _ _ _ _ _ _ _ _)
      | (with_reducible exact ih1 _ _ _ _ _ _ _ _ _ _ _ _ _ _ _ _ _ _ _)
      | (with_reducible exact ih2 _ _ _ _ _ _ _ _ _ _ _ _ _ _ _ _ _ _ _)
      | (with_reducible exact ih3 _ _ _ _ _ _ _ _ _ _ _ _ _ _ _ _ _ _)
      | (with_reducible exact ih4 _ _ _ _ _ _ _ _ _ _ _ _ _ _ _ _ _ _ _ _ _)
      | (with_reducible exact chunk_Feed.mono _ _ _ _ _ _)
      | (with_reducible exact lockagelaw08_Pieces.mono _ _)
      | (with_reducible exact lockagelaw08_awake.mono _)
      | (with_reducible exact LeO.refl _)
      | (with_reducible exact LeO.none _)
      | (with_reducible refine LeO.ite ?_ ?_)
      | (with_reducible refine LeO.bind ?_ (fun _ => ?_))
      | exact ih0 _ _ _ _ _ _ _ _ _ _ _ _ _ _ _ _ _ _
      | exact ih1 _ _ _ _ _ _ _ _ _ _ _ _ _ _ _ _ _ _ _
      | exact ih2 _ _ _ _ _ _ _ _ _ _ _ _ _ _ _ _ _ _ _
      | exact ih3 _ _ _ _ _ _ _ _ _ _ _ _ _ _ _ _ _ _
      | exact ih4 _ _ _ _ _ _ _ _ _ _ _ _ _ _ _ _ _ _ _ _ _
      | exact chunk_Feed.mono _ _ _ _ _ _
      | exact lockagelaw08_Pieces.mono _ _
      | exact lockagelaw08_awake.mono _
      | exact LeO.none _
      | refine LeO.ite ?_ ?_
      | refine LeO.bind ?_ (fun _ => ?_)
    · intro y0 y1 y2 y3 y4 y5 y6 y7 y8 y9 y10 y11 y12 y13 y14 y15 y16 y17
      unfold lockagelaw08_ChunkSplit.j3
      repeat' first
      | (with_reducible exact ih0 _ _ _ _ _ _ _ _ _ _ _ _ _ _ _ _ _ _)
      | (with_reducible exact ih1 _ _ _ _ _ _ _ _ _ _ _ _ _ _ _ _ _ _ _)
      | (with_reducible exact ih2 _ _ _ _ _ _ _ _ _ _ _ _ _ _ _ _ _ _ _)
      | (with_reducible exact ih3 _ _ _ _ _ _ _ _ _ _ _ _ _ _ _ _ _ _)
      | (with_reducible exact ih4 _ _ _ _ _ _ _ _ _ _ _ _ _ _ _ _ _ _ _ _ _)
      | (with_reducible exact chunk_Feed.mono _ _ _ _ _ _)
      | (with_reducible exact lockagelaw08_Pieces.mono _ _)
      | (with_reducible exact lockagelaw08_awake.mono _)
      | (with_reducible exact LeO.refl _)
      | (with_reducible exact LeO.none _)
      | (with_reducible refine LeO.ite ?_ ?_)
      | (with_reducible refine LeO.bind ?_ (fun _ => ?_))
      | exact ih0 _ _ _ _ _ _ _ _ _ _ _ _ _ _ _ _ _ _
      | exact ih1 _ _ _ _ _ _ _ _ _ _ _ _ _ _ _ _ _ _ _
      | exact ih2 _ _ _ _ _ _ _ _ _ _ _ _ _ _ _ _ _ _ _
      | exact ih3 _ _ _ _ _ _ _ _ _ _ _ _ _ _ _ _ _ _
      | exact ih4 _ _ _ _ _ _ _ _ _ _ _ _ _ _ _ _ _ _ _ _ _
      | exact chunk_Feed.mono _ _ _ _ _ _
      | exact lockagelaw08_Pieces.mono _ _
      | exact lockagelaw08_awake.mono _
      | exact LeO.none _
      | refine LeO.ite ?_ ?_
      | refine LeO.bind ?_ (fun _ => ?_)
    · intro y0 y1 y2 y3 y4 y5 y6 y7 y8 y9 y10 y11 y12 y13 y14 y15 y16 y17 y18 y19 y20
      unfold lockagelaw08_ChunkSplit.j4
      repeat' first
      | (with_reducible exact ih0 _ _ _ _ _ _ _ _ _ _ _ _ _ _ _ _ _ _)
      | (with_reducible exact ih1 _ _ _ _ _ _ _ _ _ _ _ _ _ _ _ _ _ _ _)
      | (with_reducible exact ih2 _ _ _ _ _ _ _ _ _ _ _ _ _ _ _ _ _ _ _)
      | (with_reducible exact ih3 _ _ _ _ _ _ _ _ _ _ _ _ _ _ _ _ _ _)
      | (with_reducible exact ih4 _ _ _ _ _ _ _ _ _ _ _ _ _ _ _ _ _ _ _ _ _)
      | (with_reducible exact chunk_Feed.mono _ _ _ _ _ _)
      | (with_reducible exact lockagelaw08_Pieces.mono _ _)
      | (with_reducible exact lockagelaw08_awake.mono _)
      | (with_reducible exact LeO.refl _)
      | (with_reducible exact LeO.none _)
      | (with_reducible refine LeO.ite ?_ ?_)
      | (with_reducible refine LeO.bind ?_ (fun _ => ?_))
      | exact ih0 _ _ _ _ _ _ _ _ _ _ _ _ _ _ _ _ _ _
      | exact ih1 _ _ _ _ _ _ _ _ _ _ _ _ _ _ _ _ _ _ _
      | exact ih2 _ _ _ _ _ _ _ _ _ _ _ _ _ _ _ _ _ _ _
      | exact ih3 _ _ _ _ _ _ _ _ _ _ _ _ _ _ _ _ _ _
      | exact ih4 _ _ _ _ _ _ _ _ _ _ _ _ _ _ _ _ _ _ _ _ _
      | exact chunk_Feed.mono _ _ _ _ _ _
      | exact lockagelaw08_Pieces.mono _ _
      | exact lockagelaw08_awake.mono _
      | exact LeO.none _
      | refine LeO.ite ?_ ?_
      | refine LeO.bind ?_ (fun _ => ?_)
theorem lockagelaw08_ChunkSplit.mono : ∀ a0 a1 k, LeO (lockagelaw08_ChunkSplit.f k a0 a1) (lockagelaw08_ChunkSplit.f (k + 1) a0 a1) := by
  intro a0 a1 k
  obtain ⟨ih0, ih1, ih2, ih3, ih4⟩ := lockagelaw08_ChunkSplit.mono_l k
  unfold lockagelaw08_ChunkSplit.f
  repeat' first
      | (with_reducible exact ih0 _ _ _ _ _ _ _ _ _ _ _ _ _ _ _ _ _ _)
      | (with_reducible exact ih1 _ _ _ _ _ _ _ _ _ _ _ _ _ _ _ _ _ _ _)
      | (with_reducible exact ih2 _ _ _ _ _ _ _ _ _ _ _ _ _ _ _ _ _ _ _)
      | (with_reducible exact ih3 _ _ _ _ _ _ _ _ _ _ _ _ _ _ _ _ _ _)
      | (with_reducible exact ih4 _ _ _ _ _ _ _ _ _ _ _ _ _ _ _ _ _ _ _ _ _)
      | (with_reducible exact chunk_Feed.mono _ _ _ _ _ _)
      | (with_reducible exact lockagelaw08_Pieces.mono _ _)
      | (with_reducible exact lockagelaw08_awake.mono _)
      | (with_reducible exact LeO.refl _)
      | (with_reducible exact LeO.none _)
      | (with_reducible refine LeO.ite ?_ ?_)
      | (with_reducible refine LeO.bind ?_ (fun _ => ?_))
      | exact ih0 _ _ _ _ _ _ _ _ _ _ _ _ _ _ _ _ _ _
      | exact ih1 _ _ _ _ _ _ _ _ _ _ _ _ _ _ _ _ _ _ _
      | exact ih2 _ _ _ _ _ _ _ _ _ _ _ _ _ _ _ _ _ _ _
      | exact ih3 _ _ _ _ _ _ _ _ _ _ _ _ _ _ _ _ _ _
      | exact ih4 _ _ _ _ _ _ _ _ _ _ _ _ _ _ _ _ _ _ _ _ _
      | exact chunk_Feed.mono _ _ _ _ _ _
      | exact lockagelaw08_Pieces.mono _ _
      | exact lockagelaw08_awake.mono _
      | exact LeO.none _
      | refine LeO.ite ?_ ?_
      | refine LeO.bind ?_ (fun _ => ?_)
def lockagelaw08_ChunkSplit.T16 : Bool × List (List Nat × List Nat) := (true, [([], []), ([], []), ([], []), ([], []), ([1, 2, 3], [1, 2, 3]), ([0, 4], [0, 4]), ([5], [5]), ([6], [6]), ([6], [6]), ([6], [6]), ([6], [6]), ([], []), ([11, 7, 5, 0, 1, 2, 3, 4, 5, 6, 7, 11], [7, 11]), ([8, 12, 0, 1, 2, 3, 4, 5, 6, 7, 8, 11, 12], [8]), ([9, 13, 0, 1, 2, 3, 4, 5, 6, 7, 8, 9, 11, 12, 13], [9]), ([10, 14, 0, 1, 2, 3, 4, 5, 6, 7, 8, 9, 10, 11, 12, 13, 14], [10])])
def lockagelaw08_ChunkSplit.B16 : List Nat := [0, 0, 0, 0, 14, 31, 63, 127, 127, 127, 127, 0, 2303, 6655, 15359, 32767]
theorem lockagelaw08_ChunkSplit.tab16 : rtab .any (opsOf Tryd.f7 16) = lockagelaw08_ChunkSplit.T16 := by kernel_rfl
theorem lockagelaw08_ChunkSplit.bits16 : waitsOk lockagelaw08_ChunkSplit.T16.2 lockagelaw08_ChunkSplit.B16 = true := by kernel_rfl
set_option maxHeartbeats 8000000 in
set_option maxRecDepth 100000 in
theorem lockagelaw08_ChunkSplit.calls (k : Nat) (A0 : Option Addr) (c0 : Nat) (l0 : List Int) (A1 : Option Addr) (c1 : Nat) (l1 : List Int) (r : Bool) (w : World) (hr0 : Kd.C (Kd.int .u8) w A0 l0.length l0) (hc0 : l0.length ≤ c0) (hr1 : Kd.C (Kd.int .u8) w A1 l1.length l1) (hc1 : l1.length ≤ c1) (hG_ : H.GlobOk w) (h : lockagelaw08_ChunkSplit.f k l0 l1 = some r) :
    Calls Tryd.prog 7 #[.slice A0 l0.length c0, .slice A1 l1.length c1] w fun e w' => e = .returned (.bool r) ∧ Below w.heap.size w w' := by
  have HG_ := Aside0.mk hG_
  clear hG_
  have hu23 := Tryd.underlying23
  have HR0 := Aside0.mk hr0
  have HC0 := Aside0.mk hc0
  clear hr0 hc0
  have HR1 := Aside0.mk hr1
  have HC1 := Aside0.mk hc1
  clear hr1 hc1
  have HB := Aside0.mk (Below.refl w.heap.size w)
  have H : ((lockagelaw08_awake.f k).bind fun t240 => (if t240 = true then ((lockagelaw08_Pieces.f k l0).bind fun t241 => ((chunk_Feed.f k 0 0 (⟨#[]⟩ : ByteArray) 0 t241).bind fun bt242 => (lockagelaw08_ChunkSplit.l0 k l1 t240 t241 bt242.2.2.2.2.1 bt242.2.2.2.2.2.1 bt242.2.2.2.2.2.2 0 (⟨#[]⟩ : ByteArray) 0 0 bt242.1 bt242.2.1 bt242.2.2.1 bt242.2.2.2.1 0 0 (⟨#[]⟩ : ByteArray) 0))) else (none))) = some r := h
  clear h
  replace H := Option.bind_eq_some_iff.mp H
  obtain ⟨t240, A30, H⟩ := H
  replace H : (if t240 = true then ((lockagelaw08_Pieces.f k l0).bind fun t241 => ((chunk_Feed.f k 0 0 (⟨#[]⟩ : ByteArray) 0 t241).bind fun bt242 => (lockagelaw08_ChunkSplit.l0 k l1 t240 t241 bt242.2.2.2.2.1 bt242.2.2.2.2.2.1 bt242.2.2.2.2.2.2 0 (⟨#[]⟩ : ByteArray) 0 0 bt242.1 bt242.2.1 bt242.2.2.1 bt242.2.2.2.1 0 0 (⟨#[]⟩ : ByteArray) 0))) else (none)) = some r := H
  have A3 := Aside0.mk A30
  clear A30
  by_cases c4 : t240 = true
  · subst c4
    have H1 : ((lockagelaw08_Pieces.f k l0).bind fun t241 => ((chunk_Feed.f k 0 0 (⟨#[]⟩ : ByteArray) 0 t241).bind fun bt242 => (lockagelaw08_ChunkSplit.l0 k l1 true t241 bt242.2.2.2.2.1 bt242.2.2.2.2.2.1 bt242.2.2.2.2.2.2 0 (⟨#[]⟩ : ByteArray) 0 0 bt242.1 bt242.2.1 bt242.2.2.1 bt242.2.2.2.1 0 0 (⟨#[]⟩ : ByteArray) 0))) = some r := by rw [if_pos rfl] at H; exact H
    clear H
    have H := H1
    clear H1
    replace H := Option.bind_eq_some_iff.mp H
    obtain ⟨t241, A50, H⟩ := H
    replace H : ((chunk_Feed.f k 0 0 (⟨#[]⟩ : ByteArray) 0 t241).bind fun bt242 => (lockagelaw08_ChunkSplit.l0 k l1 true t241 bt242.2.2.2.2.1 bt242.2.2.2.2.2.1 bt242.2.2.2.2.2.2 0 (⟨#[]⟩ : ByteArray) 0 0 bt242.1 bt242.2.1 bt242.2.2.1 bt242.2.2.2.1 0 0 (⟨#[]⟩ : ByteArray) 0)) = some r := H
    have A5 := Aside0.mk A50
    clear A50
    replace H := Option.bind_eq_some_iff.mp H
    obtain ⟨⟨t242, t243, t244, t245, t246, t247, t248⟩, A60, H⟩ := H
    replace H : (lockagelaw08_ChunkSplit.l0 k l1 true t241 t246 t247 t248 0 (⟨#[]⟩ : ByteArray) 0 0 t242 t243 t244 t245 0 0 (⟨#[]⟩ : ByteArray) 0) = some r := H
    have A6 := Aside0.mk A60
    clear A60
    have H' := Aside0.mk H
    clear H
    go_enter Tryd.func7, Tryd.ntmps7
    go_wp2_with (first | ((with_reducible refine gate_callee (f := 9) rfl ?_); refine goesL_ (some 22) rfl rfl Tryd.func9 (by kernel_rfl) rfl #[] rfl (by (try simp only [List.map_toArray, List.map_cons, List.map_nil]); first | done | rfl | (simp only [List.length_drop, List.length_take]; rfl)) ?_; (with_reducible refine (lockagelaw08_awake.calls k  true _ ?side1 A3.out).mono ?_); (case side1 => exact glob_below HG_.out (by repeat (first | (with_reducible first | exact HB.out | apply below_alloc | apply pw_below_drewN | apply below_drew1) | exact HB.out))); rintro e w7 ⟨rfl, hb⟩; refine ⟨_, rfl, ?_⟩; have n0_ := Aside0.mk (below_step (by repeat (first | (with_reducible first | exact HB.out | apply below_alloc | apply pw_below_drewN | apply below_drew1) | exact HB.out)) hb); clear HB; have HB := n0_; clear n0_; (try clear hb); (try clear hb2); (try clear hk); (try clear hi)) | ((with_reducible refine gate_callee (f := 11) rfl ?_); refine goesL_ (some 26) rfl rfl Tryd.func11 (by kernel_rfl) rfl #[.slice A0 l0.length c0] rfl (by (try simp only [List.map_toArray, List.map_cons, List.map_nil]); first | done | rfl | (simp only [List.length_drop, List.length_take]; rfl)) ?_; (with_reducible refine (lockagelaw08_Pieces.calls k _ _ l0 t241 _ ?side1 ?side2 A5.out).mono ?_); (case side1 => repeat (first | exact (Kd.C_below HR0.out HB.out) | (with_reducible refine Kd.C_alloc ?_ _) | (with_reducible refine Kd.C_drewN ?_ _) | (with_reducible refine Kd.C_drew ?_))); (case side2 => exact HC0.out); rintro e w8 ⟨rfl, hb⟩; refine ⟨_, rfl, ?_⟩; have n0_ := Aside0.mk (below_step (by repeat (first | (with_reducible first | exact HB.out | apply below_alloc | apply pw_below_drewN | apply below_drew1) | exact HB.out)) hb); clear HB; have HB := n0_; clear n0_; (try clear hb); (try clear hb2); (try clear hk); (try clear hi)) | ((with_reducible refine gate_callee (f := 15) rfl ?_); refine goesL_ (some 30) rfl rfl Tryd.func15 (by kernel_rfl) rfl #[.agg #[.int .i64 0, .int .i64 0, .string (⟨#[]⟩ : ByteArray), .int .i64 0], .string t241] rfl (by (try simp only [List.map_toArray, List.map_cons, List.map_nil]); first | done | rfl | (simp only [List.length_drop, List.length_take]; rfl)) ?_; (with_reducible refine (chunk_Feed.calls k 0 0 (⟨#[]⟩ : ByteArray) 0 t241 t242 t243 t244 t245 t246 t247 t248 _ A6.out).mono ?_); rintro e w9 ⟨rfl, hb⟩; refine ⟨_, rfl, ?_⟩; have n0_ := Aside0.mk (below_step (by repeat (first | (with_reducible first | exact HB.out | apply below_alloc | apply pw_below_drewN | apply below_drew1) | exact HB.out)) hb); clear HB; have HB := n0_; clear n0_; (try clear hb); (try clear hb2); (try clear hk); (try clear hi)) | ((with_reducible refine gate_dst (N := 7) rfl ?_); refine box_event ?hg (N := 7) ?hd (cs := #[.int .i64 0, .int .i64 0, .string (⟨#[]⟩ : ByteArray), .int .i64 0]) (t := 23) ?hr ?_; (case hd => rfl); (case hg => rfl); (case hr => first | (go_simp; done) | (go_simp; rfl)); intro gb249 hg w10 hbox hb; have n0_ := Aside0.mk (below_step (by repeat (first | (with_reducible first | exact HB.out | apply below_alloc | apply pw_below_drewN | apply below_drew1) | exact HB.out)) hb); have n1_ := Aside0.mk (hbox); have n2_ := Aside0.mk ((by rw [hg]; exact (below_size (by repeat (first | (with_reducible first | exact HB.out | apply below_alloc | apply pw_below_drewN | apply below_drew1) | exact HB.out))) : w.heap.size ≤ gb249)); have n3_ := Aside0.mk ((by rw [hg]; exact (below_size (by repeat (first | (with_reducible first | exact HB.out | apply below_alloc | apply pw_below_drewN | apply below_drew1) | exact HB.out))) : w.heap.size ≤ gb249)); clear HB; have HB := n0_; have BK249 := n1_; have GW249 := n2_; have GE249 := n3_; clear n0_ n1_ n2_ n3_; clear hb hbox hg; have hcz11_0 : w10.cell? ⟨gb249, 0, none⟩ = some (.int .i64 0) := (blk_cell BK249.out 0).trans rfl; have hcz11_1 : w10.cell? ⟨gb249, 1, none⟩ = some (.int .i64 0) := (blk_cell BK249.out 1).trans rfl; have hcz11_2 : w10.cell? ⟨gb249, 2, none⟩ = some (.string (⟨#[]⟩ : ByteArray)) := (blk_cell BK249.out 2).trans rfl; have hcz11_3 : w10.cell? ⟨gb249, 3, none⟩ = some (.int .i64 0) := (blk_cell BK249.out 3).trans rfl; have hfz11_0 := blk_frozen BK249.out 0; have hfz11_1 := blk_frozen BK249.out 1; have hfz11_2 := blk_frozen BK249.out 2; have hfz11_3 := blk_frozen BK249.out 3) | ((with_reducible refine gate_dst (N := 11) rfl ?_); refine box_event ?hg (N := 11) ?hd (cs := #[.int .i64 0, .int .i64 0, .string (⟨#[]⟩ : ByteArray), .int .i64 0]) (t := 23) ?hr ?_; (case hd => rfl); (case hg => rfl); (case hr => first | (go_simp; done) | (go_simp; rfl)); intro gb250 hg w12 hbox hb; have n0_ := Aside0.mk (blk_below (g := gb249) (o := .cells #[.int .i64 t242, .int .i64 t243, .string t244, .int .i64 t245] 23 (0, 0)) (by (with_reducible repeat (first | refine blk_drewN ?_ _ | refine blk_drew ?_ | refine blk_alloc ?_ _)); refine blk_put (cs := #[.int .i64 t242, .int .i64 t243, .string t244, .int .i64 0]) ?_ 3 _ rfl; (with_reducible repeat (first | refine blk_drewN ?_ _ | refine blk_drew ?_ | refine blk_alloc ?_ _)); refine blk_put (cs := #[.int .i64 t242, .int .i64 t243, .string (⟨#[]⟩ : ByteArray), .int .i64 0]) ?_ 2 _ rfl; (with_reducible repeat (first | refine blk_drewN ?_ _ | refine blk_drew ?_ | refine blk_alloc ?_ _)); refine blk_put (cs := #[.int .i64 t242, .int .i64 0, .string (⟨#[]⟩ : ByteArray), .int .i64 0]) ?_ 1 _ rfl; (with_reducible repeat (first | refine blk_drewN ?_ _ | refine blk_drew ?_ | refine blk_alloc ?_ _)); refine blk_put (cs := #[.int .i64 0, .int .i64 0, .string (⟨#[]⟩ : ByteArray), .int .i64 0]) ?_ 0 _ rfl; (with_reducible repeat (first | refine blk_drewN ?_ _ | refine blk_drew ?_ | refine blk_alloc ?_ _)); exact BK249.out) hb); have n1_ := Aside0.mk (below_step (by repeat (first | (with_reducible first | exact HB.out | apply below_alloc | apply pw_below_drewN | apply below_drew1 | refine below_set ?_ GE249.out) | exact HB.out)) hb); have n2_ := Aside0.mk (hbox); have n3_ := Aside0.mk ((by rw [hg]; exact (below_size (by repeat (first | (with_reducible first | exact HB.out | apply below_alloc | apply pw_below_drewN | apply below_drew1 | refine below_set ?_ GE249.out) | exact HB.out))) : w.heap.size ≤ gb250)); have n4_ := Aside0.mk ((by rw [hg]; exact (below_size (by repeat (first | (with_reducible first | exact HB.out | apply below_alloc | apply pw_below_drewN | apply below_drew1 | refine below_set ?_ GE249.out) | exact HB.out))) : w.heap.size ≤ gb250)); have n5_ := Aside0.mk ((by rw [hg]; exact Nat.ne_of_lt (blk_lt (g := gb249) (o := .cells #[.int .i64 t242, .int .i64 t243, .string t244, .int .i64 t245] 23 (0, 0)) (by (with_reducible repeat (first | refine blk_drewN ?_ _ | refine blk_drew ?_ | refine blk_alloc ?_ _)); refine blk_put (cs := #[.int .i64 t242, .int .i64 t243, .string t244, .int .i64 0]) ?_ 3 _ rfl; (with_reducible repeat (first | refine blk_drewN ?_ _ | refine blk_drew ?_ | refine blk_alloc ?_ _)); refine blk_put (cs := #[.int .i64 t242, .int .i64 t243, .string (⟨#[]⟩ : ByteArray), .int .i64 0]) ?_ 2 _ rfl; (with_reducible repeat (first | refine blk_drewN ?_ _ | refine blk_drew ?_ | refine blk_alloc ?_ _)); refine blk_put (cs := #[.int .i64 t242, .int .i64 0, .string (⟨#[]⟩ : ByteArray), .int .i64 0]) ?_ 1 _ rfl; (with_reducible repeat (first | refine blk_drewN ?_ _ | refine blk_drew ?_ | refine blk_alloc ?_ _)); refine blk_put (cs := #[.int .i64 0, .int .i64 0, .string (⟨#[]⟩ : ByteArray), .int .i64 0]) ?_ 0 _ rfl; (with_reducible repeat (first | refine blk_drewN ?_ _ | refine blk_drew ?_ | refine blk_alloc ?_ _)); exact BK249.out)) : gb249 ≠ gb250)); have n6_ := Aside0.mk ((by rw [hg]; exact Nat.ne_of_gt (blk_lt (g := gb249) (o := .cells #[.int .i64 t242, .int .i64 t243, .string t244, .int .i64 t245] 23 (0, 0)) (by (with_reducible repeat (first | refine blk_drewN ?_ _ | refine blk_drew ?_ | refine blk_alloc ?_ _)); refine blk_put (cs := #[.int .i64 t242, .int .i64 t243, .string t244, .int .i64 0]) ?_ 3 _ rfl; (with_reducible repeat (first | refine blk_drewN ?_ _ | refine blk_drew ?_ | refine blk_alloc ?_ _)); refine blk_put (cs := #[.int .i64 t242, .int .i64 t243, .string (⟨#[]⟩ : ByteArray), .int .i64 0]) ?_ 2 _ rfl; (with_reducible repeat (first | refine blk_drewN ?_ _ | refine blk_drew ?_ | refine blk_alloc ?_ _)); refine blk_put (cs := #[.int .i64 t242, .int .i64 0, .string (⟨#[]⟩ : ByteArray), .int .i64 0]) ?_ 1 _ rfl; (with_reducible repeat (first | refine blk_drewN ?_ _ | refine blk_drew ?_ | refine blk_alloc ?_ _)); refine blk_put (cs := #[.int .i64 0, .int .i64 0, .string (⟨#[]⟩ : ByteArray), .int .i64 0]) ?_ 0 _ rfl; (with_reducible repeat (first | refine blk_drewN ?_ _ | refine blk_drew ?_ | refine blk_alloc ?_ _)); exact BK249.out)) : gb250 ≠ gb249)); clear BK249; clear HB; have BK249 := n0_; have HB := n1_; have BK250 := n2_; have GW250 := n3_; have GE250 := n4_; have NB249_250 := n5_; have NB250_249 := n6_; clear n0_ n1_ n2_ n3_ n4_ n5_ n6_; clear hb hbox hg))
    go_loopg [12, 13, 14, 15] k (fun kq v12 v13 v14 v15 w' => ∃ (x12_1 : Int) (x13_1 : ByteArray) (x14_1 : Int) (x15_1 : Int) (x251000_1 : Int) (x251001_1 : Int) (x251002_1 : ByteArray) (x251003_1 : Int), v12 = .int .i64 x12_1 ∧ v13 = .string x13_1 ∧ v14 = .int .i64 x14_1 ∧ v15 = .int .i64 x15_1 ∧ Aside0 (lockagelaw08_ChunkSplit.l0 kq l1 true t241 t246 t247 t248 x12_1 x13_1 x14_1 x15_1 t242 t243 t244 t245 x251000_1 x251001_1 x251002_1 x251003_1 = some r) ∧ Aside0 (kq ≤ k) ∧ Aside0 (w'.heap[gb249]? = some (.cells #[.int .i64 t242, .int .i64 t243, .string t244, .int .i64 t245] 23 (0, 0))) ∧ Aside0 (w'.heap[gb250]? = some (.cells #[.int .i64 x251000_1, .int .i64 x251001_1, .string x251002_1, .int .i64 x251003_1] 23 (0, 0))) ∧ Aside0 (Below w.heap.size w w'))
    case atStart => exact ⟨(0), ((⟨#[]⟩ : ByteArray)), (0), (0), (0), (0), ((⟨#[]⟩ : ByteArray)), (0), (by first | rfl | (simp; done) | (simp [*]; done)), (by first | rfl | (simp; done) | (simp [*]; done)), (by first | rfl | (simp; done) | (simp [*]; done)), (by first | rfl | (simp; done) | (simp [*]; done)), H', ⟨Nat.le_refl _⟩, ⟨by (with_reducible repeat (first | refine blk_drewN ?_ _ | refine blk_drew ?_ | refine blk_alloc ?_ _)); exact BK249.out⟩, ⟨by (with_reducible repeat (first | refine blk_drewN ?_ _ | refine blk_drew ?_ | refine blk_alloc ?_ _)); exact BK250.out⟩, ⟨by repeat (first | (with_reducible first | exact HB.out | apply below_alloc | apply pw_below_drewN | apply below_drew1 | refine below_set ?_ GE249.out | refine below_set ?_ GE250.out) | exact HB.out)⟩⟩
    case round =>
      clear H'
      try clear c1
      try clear p2
      try clear c4
      try clear c7
      try clear c9
      try clear c11
      try clear hcz11_0
      try clear hcz11_1
      try clear hcz11_2
      try clear hcz11_3
      try clear hfz11_0
      try clear hfz11_1
      try clear hfz11_2
      try clear hfz11_3
      obtain ⟨x12_1, x13_1, x14_1, x15_1, x251000_1, x251001_1, x251002_1, x251003_1, rfl, rfl, rfl, rfl, HA, HK1, BK249, BK250, HB⟩ := hrel
      cases gk with
      | zero => exact absurd HA.out (by simp [lockagelaw08_ChunkSplit.l0])
      | succ k1 =>
        have H := HA.out
        clear HA
        simp only [lockagelaw08_ChunkSplit.l0] at H
        have HC13 := Aside0.mk H
        clear H
        go_upto_region 10 with (fail)
        go_cut [47] (fun v47 wc => ∃ (kq : Nat) (x47_12 : Bool), v47 = .bool x47_12 ∧ Aside0 (lockagelaw08_ChunkSplit.j1 kq l1 true t241 t246 t247 t248 x12_1 x13_1 x14_1 x15_1 x47_12 t242 t243 t244 t245 x251000_1 x251001_1 x251002_1 x251003_1 = some r) ∧ Aside0 (kq ≤ k1) ∧ Aside0 (wc.heap[gb249]? = some (.cells #[.int .i64 t242, .int .i64 t243, .string t244, .int .i64 t245] 23 (0, 0))) ∧ Aside0 (wc.heap[gb250]? = some (.cells #[.int .i64 x251000_1, .int .i64 x251001_1, .string x251002_1, .int .i64 x251003_1] 23 (0, 0))) ∧ Aside0 (Below w.heap.size w wc))
        case first =>
          have H := HC13.out
          clear HC13
          by_cases c14 : x12_1 < (t241.size : Int)
          · rw [if_pos c14] at H
            have c14b0 : decide (x12_1 < (t241.size : Int)) = true := decide_eq_true c14
            clear c14
            (first | rw [c14b0] | (simp only [i64_w, i32_w]; rw [c14b0]) | skip)
            by_cases c15 : x14_1 = 0
            · rw [if_pos c15] at H
              have c15b0 : (x14_1 == 0) = true := beq_iff_eq.mpr c15
              have c15b1 : (x14_1 != 0) = false := bne_eq_false_iff_eq.mpr c15
              clear c15
              have H' := Aside0.mk H
              clear H
              have hnb16 := NB250_249.out
              have hnc16 := NB249_250.out
              have hcz17_0 : wr.cell? ⟨gb250, 0, none⟩ = some (.int .i64 x251000_1) := (blk_cell BK250.out 0).trans rfl
              have hcz17_1 : wr.cell? ⟨gb250, 1, none⟩ = some (.int .i64 x251001_1) := (blk_cell BK250.out 1).trans rfl
              have hcz17_2 : wr.cell? ⟨gb250, 2, none⟩ = some (.string x251002_1) := (blk_cell BK250.out 2).trans rfl
              have hcz17_3 : wr.cell? ⟨gb250, 3, none⟩ = some (.int .i64 x251003_1) := (blk_cell BK250.out 3).trans rfl
              have hfz17_0 := blk_frozen BK250.out 0
              have hfz17_1 := blk_frozen BK250.out 1
              have hfz17_2 := blk_frozen BK250.out 2
              have hfz17_3 := blk_frozen BK250.out 3
              go_wp2
              go_meet
              case rel => exact ⟨_, ((x251000_1 != 4)), (by first | rfl | (simp; done) | (simp [*]; done)), H', ⟨by have := HK1.out; first | omega | exact Nat.le_refl _⟩, ⟨by (with_reducible repeat (first | refine blk_drewN ?_ _ | refine blk_drew ?_ | refine blk_alloc ?_ _)); exact BK249.out⟩, ⟨by (with_reducible repeat (first | refine blk_drewN ?_ _ | refine blk_drew ?_ | refine blk_alloc ?_ _)); exact BK250.out⟩, ⟨by repeat (first | (with_reducible first | exact HB.out | apply below_alloc | apply pw_below_drewN | apply below_drew1 | refine below_set ?_ GE249.out | refine below_set ?_ GE250.out) | exact HB.out)⟩⟩
            · rw [if_neg c15] at H
              have c15b0 : (x14_1 == 0) = false := beq_eq_false_iff_ne.mpr c15
              have c15b1 : (x14_1 != 0) = true := bne_iff_ne.mpr c15
              have H' := Aside0.mk H
              clear H
              go_wp2
              go_meet
              case rel => exact ⟨_, (false), (by first | rfl | (simp; done) | (simp [*]; done)), H', ⟨by have := HK1.out; first | omega | exact Nat.le_refl _⟩, ⟨by (with_reducible repeat (first | refine blk_drewN ?_ _ | refine blk_drew ?_ | refine blk_alloc ?_ _)); exact BK249.out⟩, ⟨by (with_reducible repeat (first | refine blk_drewN ?_ _ | refine blk_drew ?_ | refine blk_alloc ?_ _)); exact BK250.out⟩, ⟨by repeat (first | (with_reducible first | exact HB.out | apply below_alloc | apply pw_below_drewN | apply below_drew1 | refine below_set ?_ GE249.out | refine below_set ?_ GE250.out) | exact HB.out)⟩⟩
          · rw [if_neg c14] at H
            have c14b0 : decide (x12_1 < (t241.size : Int)) = false := decide_eq_false c14
            clear c14
            (first | rw [c14b0] | (simp only [i64_w, i32_w]; rw [c14b0]) | skip)
            have H' := Aside0.mk H
            clear H
            go_wp2
            go_meet
            case rel => exact ⟨_, (false), (by first | rfl | (simp; done) | (simp [*]; done)), H', ⟨by have := HK1.out; first | omega | exact Nat.le_refl _⟩, ⟨by (with_reducible repeat (first | refine blk_drewN ?_ _ | refine blk_drew ?_ | refine blk_alloc ?_ _)); exact BK249.out⟩, ⟨by (with_reducible repeat (first | refine blk_drewN ?_ _ | refine blk_drew ?_ | refine blk_alloc ?_ _)); exact BK250.out⟩, ⟨by repeat (first | (with_reducible first | exact HB.out | apply below_alloc | apply pw_below_drewN | apply below_drew1 | refine below_set ?_ GE249.out | refine below_set ?_ GE250.out) | exact HB.out)⟩⟩
        case rest =>
          clear HC13
          try clear c1
          try clear p2
          try clear c4
          try clear c7
          try clear c9
          try clear c11
          try clear c14
          try clear c14b0
          try clear c15
          try clear c15b0
          try clear c15b1
          try clear c16
          try clear hcz11_0
          try clear hcz11_1
          try clear hcz11_2
          try clear hcz11_3
          try clear hcz17_0
          try clear hcz17_1
          try clear hcz17_2
          try clear hcz17_3
          try clear hfz11_0
          try clear hfz11_1
          try clear hfz11_2
          try clear hfz11_3
          try clear hfz17_0
          try clear hfz17_1
          try clear hfz17_2
          try clear hfz17_3
          try clear p2
          obtain ⟨kq, x47_12, rfl, HA, HJ12, BK249, BK250, HB⟩ := hcut
          cases kq with
          | zero => exact absurd HA.out (by simp [lockagelaw08_ChunkSplit.j1])
          | succ kj12 =>
            have H := HA.out
            clear HA
            simp only [lockagelaw08_ChunkSplit.j1] at H
            by_cases c18 : x47_12 = true
            · subst c18
              have H1 : (if x15_1 < (l1.length : Int) then (lockagelaw08_ChunkSplit.j2 kj12 l1 true t241 t246 t247 t248 x12_1 x13_1 x15_1 1 (decide (x15_1 < 200)) t242 t243 t244 t245 x251000_1 x251001_1 x251002_1 x251003_1) else (lockagelaw08_ChunkSplit.j2 kj12 l1 true t241 t246 t247 t248 x12_1 x13_1 x15_1 1 false t242 t243 t244 t245 x251000_1 x251001_1 x251002_1 x251003_1)) = some r := by rw [if_pos rfl] at H; exact H
              clear H
              have H := H1
              clear H1
              have HC19 := Aside0.mk H
              clear H
              go_upto_region 13 with (fail)
              go_cut [57] (fun v57 wc => ∃ (kq : Nat) (x57_18 : Bool), v57 = .bool x57_18 ∧ Aside0 (lockagelaw08_ChunkSplit.j2 kq l1 true t241 t246 t247 t248 x12_1 x13_1 x15_1 1 x57_18 t242 t243 t244 t245 x251000_1 x251001_1 x251002_1 x251003_1 = some r) ∧ Aside0 (kq ≤ kj12) ∧ Aside0 (wc.heap[gb249]? = some (.cells #[.int .i64 t242, .int .i64 t243, .string t244, .int .i64 t245] 23 (0, 0))) ∧ Aside0 (wc.heap[gb250]? = some (.cells #[.int .i64 x251000_1, .int .i64 x251001_1, .string x251002_1, .int .i64 x251003_1] 23 (0, 0))) ∧ Aside0 (Below w.heap.size w wc))
              case first =>
                have H := HC19.out
                clear HC19
                by_cases c20 : x15_1 < (l1.length : Int)
                · rw [if_pos c20] at H
                  have c20b0 : decide (x15_1 < (l1.length : Int)) = true := decide_eq_true c20
                  clear c20
                  (first | rw [c20b0] | (simp only [i64_w, i32_w]; rw [c20b0]) | skip)
                  have H' := Aside0.mk H
                  clear H
                  go_wp2
                  go_meet
                  case rel => exact ⟨_, (decide (x15_1 < 200)), (by first | rfl | (simp; done) | (simp [*]; done)), H', ⟨by have := HK1.out; have := HJ12.out; first | omega | exact Nat.le_refl _⟩, ⟨by (with_reducible repeat (first | refine blk_drewN ?_ _ | refine blk_drew ?_ | refine blk_alloc ?_ _)); exact BK249.out⟩, ⟨by (with_reducible repeat (first | refine blk_drewN ?_ _ | refine blk_drew ?_ | refine blk_alloc ?_ _)); exact BK250.out⟩, ⟨by repeat (first | (with_reducible first | exact HB.out | apply below_alloc | apply pw_below_drewN | apply below_drew1 | refine below_set ?_ GE249.out | refine below_set ?_ GE250.out) | exact HB.out)⟩⟩
                · rw [if_neg c20] at H
                  have c20b0 : decide (x15_1 < (l1.length : Int)) = false := decide_eq_false c20
                  clear c20
                  (first | rw [c20b0] | (simp only [i64_w, i32_w]; rw [c20b0]) | skip)
                  have H' := Aside0.mk H
                  clear H
                  go_wp2
                  go_meet
                  case rel => exact ⟨_, (false), (by first | rfl | (simp; done) | (simp [*]; done)), H', ⟨by have := HK1.out; have := HJ12.out; first | omega | exact Nat.le_refl _⟩, ⟨by (with_reducible repeat (first | refine blk_drewN ?_ _ | refine blk_drew ?_ | refine blk_alloc ?_ _)); exact BK249.out⟩, ⟨by (with_reducible repeat (first | refine blk_drewN ?_ _ | refine blk_drew ?_ | refine blk_alloc ?_ _)); exact BK250.out⟩, ⟨by repeat (first | (with_reducible first | exact HB.out | apply below_alloc | apply pw_below_drewN | apply below_drew1 | refine below_set ?_ GE249.out | refine below_set ?_ GE250.out) | exact HB.out)⟩⟩
              case rest =>
                clear HC19
                try clear c1
                try clear c2
                try clear p2
                try clear c4
                try clear c7
                try clear c9
                try clear c11
                try clear c14
                try clear c14b0
                try clear c15
                try clear c15b0
                try clear c15b1
                try clear c16
                try clear c18
                try clear c20
                try clear c20b0
                try clear hcz11_0
                try clear hcz11_1
                try clear hcz11_2
                try clear hcz11_3
                try clear hcz17_0
                try clear hcz17_1
                try clear hcz17_2
                try clear hcz17_3
                try clear hfz11_0
                try clear hfz11_1
                try clear hfz11_2
                try clear hfz11_3
                try clear hfz17_0
                try clear hfz17_1
                try clear hfz17_2
                try clear hfz17_3
                try clear p2
                obtain ⟨kq, x57_18, rfl, HA, HJ18, BK249, BK250, HB⟩ := hcut
                cases kq with
                | zero => exact absurd HA.out (by simp [lockagelaw08_ChunkSplit.j2])
                | succ kj18 =>
                  have H := HA.out
                  clear HA
                  simp only [lockagelaw08_ChunkSplit.j2] at H
                  have HC21 := Aside0.mk H
                  clear H
                  go_upto_if 57 with (fail)
                  go_cut [16] (fun v16 wc => ∃ (kq : Nat) (x16_20 : Int), v16 = .int .i64 x16_20 ∧ Aside0 (lockagelaw08_ChunkSplit.j3 kq l1 true t241 t246 t247 t248 x12_1 x13_1 x15_1 x16_20 t242 t243 t244 t245 x251000_1 x251001_1 x251002_1 x251003_1 = some r) ∧ Aside0 (kq ≤ kj18) ∧ Aside0 (wc.heap[gb249]? = some (.cells #[.int .i64 t242, .int .i64 t243, .string t244, .int .i64 t245] 23 (0, 0))) ∧ Aside0 (wc.heap[gb250]? = some (.cells #[.int .i64 x251000_1, .int .i64 x251001_1, .string x251002_1, .int .i64 x251003_1] 23 (0, 0))) ∧ Aside0 (Below w.heap.size w wc))
                  case first =>
                    have H := HC21.out
                    clear HC21
                    by_cases c22 : x57_18 = true
                    · subst c22
                      have H1 : (if 0 ≤ x15_1 then (if x15_1 < (l1.length : Int) then (lockagelaw08_ChunkSplit.j3 kj18 l1 true t241 t246 t247 t248 x12_1 x13_1 x15_1 (Int.tmod (wrap64 (rd l1 x15_1)) 8) t242 t243 t244 t245 x251000_1 x251001_1 x251002_1 x251003_1) else (none)) else (none)) = some r := by rw [if_pos rfl] at H; exact H
                      clear H
                      have H := H1
                      clear H1
                      by_cases c23 : 0 ≤ x15_1
                      · rw [if_pos c23] at H
                        have c23b0 : decide (0 ≤ x15_1) = true := decide_eq_true c23
                        clear c23
                        (first | rw [c23b0] | (simp only [i64_w, i32_w]; rw [c23b0]) | skip)
                        by_cases c24 : x15_1 < (l1.length : Int)
                        · rw [if_pos c24] at H
                          have c24b0 : decide (x15_1 < (l1.length : Int)) = true := decide_eq_true c24
                          clear c24
                          have H' := Aside0.mk H
                          clear H
                          have p251 : 0 ≤ (x15_1 : Int) := of_decide_eq_true (by first | (with_reducible assumption) | assumption)
                          have q251 : x15_1 < (l1.length : Int) := of_decide_eq_true (by first | (with_reducible assumption) | assumption)
                          obtain ⟨ad251, e251, hx251_0⟩ := Kd.at_int HR1.out x15_1 p251 q251
                          cases e251
                          replace hx251_0 := (HB.out.cell (World.block_lt_of_cell? w _ hx251_0)).trans hx251_0
                          replace p251 := eq_true p251
                          replace q251 := eq_true q251
                          go_wp2
                          go_meet
                          case rel => exact ⟨_, (Int.tmod (wrap64 (rd l1 x15_1)) 8), (by first | rfl | (simp; done) | (simp [*]; done)), H', ⟨by have := HK1.out; have := HJ12.out; have := HJ18.out; first | omega | exact Nat.le_refl _⟩, ⟨by (with_reducible repeat (first | refine blk_drewN ?_ _ | refine blk_drew ?_ | refine blk_alloc ?_ _)); exact BK249.out⟩, ⟨by (with_reducible repeat (first | refine blk_drewN ?_ _ | refine blk_drew ?_ | refine blk_alloc ?_ _)); exact BK250.out⟩, ⟨by repeat (first | (with_reducible first | exact HB.out | apply below_alloc | apply pw_below_drewN | apply below_drew1 | refine below_set ?_ GE249.out | refine below_set ?_ GE250.out) | exact HB.out)⟩⟩
                        · rw [if_neg c24] at H
                          exact absurd H (by simp)
                      · rw [if_neg c23] at H
                        exact absurd H (by simp)
                    · replace c22 := Bool.eq_false_iff.mpr c22
                      subst c22
                      have H1 : (lockagelaw08_ChunkSplit.j3 kj18 l1 true t241 t246 t247 t248 x12_1 x13_1 x15_1 1 t242 t243 t244 t245 x251000_1 x251001_1 x251002_1 x251003_1) = some r := by rw [if_neg (show ¬ (false = true) by decide)] at H; exact H
                      clear H
                      have H := H1
                      clear H1
                      have H' := Aside0.mk H
                      clear H
                      go_wp2
                      go_meet
                      case rel => exact ⟨_, (1), (by first | rfl | (simp; done) | (simp [*]; done)), H', ⟨by have := HK1.out; have := HJ12.out; have := HJ18.out; first | omega | exact Nat.le_refl _⟩, ⟨by (with_reducible repeat (first | refine blk_drewN ?_ _ | refine blk_drew ?_ | refine blk_alloc ?_ _)); exact BK249.out⟩, ⟨by (with_reducible repeat (first | refine blk_drewN ?_ _ | refine blk_drew ?_ | refine blk_alloc ?_ _)); exact BK250.out⟩, ⟨by repeat (first | (with_reducible first | exact HB.out | apply below_alloc | apply pw_below_drewN | apply below_drew1 | refine below_set ?_ GE249.out | refine below_set ?_ GE250.out) | exact HB.out)⟩⟩
                  case rest =>
                    clear HC21
                    try clear c1
                    try clear c2
                    try clear p2
                    try clear q2
                    try clear hx2
                    try clear c4
                    try clear p6
                    try clear c7
                    try clear c9
                    try clear c11
                    try clear c14
                    try clear c14b0
                    try clear c15
                    try clear c15b0
                    try clear c15b1
                    try clear c16
                    try clear c18
                    try clear c20
                    try clear c20b0
                    try clear c22
                    try clear c23
                    try clear c23b0
                    try clear c24
                    try clear c24b0
                    try clear hcz11_0
                    try clear hcz11_1
                    try clear hcz11_2
                    try clear hcz11_3
                    try clear hcz17_0
                    try clear hcz17_1
                    try clear hcz17_2
                    try clear hcz17_3
                    try clear hfz11_0
                    try clear hfz11_1
                    try clear hfz11_2
                    try clear hfz11_3
                    try clear hfz17_0
                    try clear hfz17_1
                    try clear hfz17_2
                    try clear hfz17_3
                    try clear hx251_0
                    try clear p2
                    try clear p251
                    try clear q251
                    obtain ⟨kq, x16_20, rfl, HA, HJ20, BK249, BK250, HB⟩ := hcut
                    cases kq with
                    | zero => exact absurd HA.out (by simp [lockagelaw08_ChunkSplit.j3])
                    | succ kj20 =>
                      have H := HA.out
                      clear HA
                      simp only [lockagelaw08_ChunkSplit.j3] at H
                      obtain ⟨ji25, hji25⟩ : ∃ j_ : Int, (mn (t241.size : Int) (wrap64 (x12_1 + x16_20))) = j_ := ⟨_, rfl⟩
                      replace H : (if 0 ≤ x12_1 then (if x12_1 ≤ (ji25) then (if (ji25) ≤ (t241.size : Int) then ((chunk_Feed.f kj20 x251000_1 x251001_1 x251002_1 x251003_1 (t241.extract (x12_1 : Int).toNat ((ji25) : Int).toNat)).bind fun bt252 => (if bt252.2.2.2.2.2.2 = 0 then (if bt252.2.2.2.2.1 < 0 then (lockagelaw08_ChunkSplit.j4 kj20 l1 true t241 t246 t247 t248 x12_1 x13_1 x15_1 bt252.2.2.2.2.1 bt252.2.2.2.2.2.1 bt252.2.2.2.2.2.2 true t242 t243 t244 t245 bt252.1 bt252.2.1 bt252.2.2.1 bt252.2.2.2.1) else (if bt252.2.2.2.2.1 > (wrap64 ((ji25) - x12_1)) then (lockagelaw08_ChunkSplit.j4 kj20 l1 true t241 t246 t247 t248 x12_1 x13_1 x15_1 bt252.2.2.2.2.1 bt252.2.2.2.2.2.1 bt252.2.2.2.2.2.2 true t242 t243 t244 t245 bt252.1 bt252.2.1 bt252.2.2.1 bt252.2.2.2.1) else (if bt252.2.2.2.2.1 < (wrap64 ((ji25) - x12_1)) then (lockagelaw08_ChunkSplit.j4 kj20 l1 true t241 t246 t247 t248 x12_1 x13_1 x15_1 bt252.2.2.2.2.1 bt252.2.2.2.2.2.1 bt252.2.2.2.2.2.2 (bt252.1 != 4) t242 t243 t244 t245 bt252.1 bt252.2.1 bt252.2.2.1 bt252.2.2.2.1) else (lockagelaw08_ChunkSplit.j4 kj20 l1 true t241 t246 t247 t248 x12_1 x13_1 x15_1 bt252.2.2.2.2.1 bt252.2.2.2.2.2.1 bt252.2.2.2.2.2.2 false t242 t243 t244 t245 bt252.1 bt252.2.1 bt252.2.2.1 bt252.2.2.2.1)))) else (lockagelaw08_ChunkSplit.j4 kj20 l1 true t241 t246 t247 t248 x12_1 x13_1 x15_1 bt252.2.2.2.2.1 bt252.2.2.2.2.2.1 bt252.2.2.2.2.2.2 false t242 t243 t244 t245 bt252.1 bt252.2.1 bt252.2.2.1 bt252.2.2.2.1))) else (none)) else (none)) else (none)) = some r := by first | (rw [hji25] at H; exact H) | (simp only [hji25] at H ⊢; exact H)
                      have hji25_ : (if (wrap64 (x12_1 + x16_20)) < (t241.size : Int) then (wrap64 (x12_1 + x16_20)) else (t241.size : Int)) = ji25 := hji25
                      by_cases c26 : 0 ≤ x12_1
                      · rw [if_pos c26] at H
                        have c26b0 := eq_true c26
                        have c26b1 : decide (0 ≤ x12_1) = true := decide_eq_true c26
                        clear c26
                        by_cases c27 : x12_1 ≤ (ji25)
                        · rw [if_pos c27] at H
                          have c27b0 := eq_true c27
                          have c27b1 : decide (x12_1 ≤ (ji25)) = true := decide_eq_true c27
                          clear c27
                          by_cases c28 : (ji25) ≤ (t241.size : Int)
                          · rw [if_pos c28] at H
                            have c28b0 := eq_true c28
                            have c28b1 : decide ((ji25) ≤ (t241.size : Int)) = true := decide_eq_true c28
                            clear c28
                            replace H := Option.bind_eq_some_iff.mp H
                            obtain ⟨⟨t252, t253, t254, t255, t256, t257, t258⟩, A290, H⟩ := H
                            replace H : (if t258 = 0 then (if t256 < 0 then (lockagelaw08_ChunkSplit.j4 kj20 l1 true t241 t246 t247 t248 x12_1 x13_1 x15_1 t256 t257 t258 true t242 t243 t244 t245 t252 t253 t254 t255) else (if t256 > (wrap64 ((ji25) - x12_1)) then (lockagelaw08_ChunkSplit.j4 kj20 l1 true t241 t246 t247 t248 x12_1 x13_1 x15_1 t256 t257 t258 true t242 t243 t244 t245 t252 t253 t254 t255) else (if t256 < (wrap64 ((ji25) - x12_1)) then (lockagelaw08_ChunkSplit.j4 kj20 l1 true t241 t246 t247 t248 x12_1 x13_1 x15_1 t256 t257 t258 (t252 != 4) t242 t243 t244 t245 t252 t253 t254 t255) else (lockagelaw08_ChunkSplit.j4 kj20 l1 true t241 t246 t247 t248 x12_1 x13_1 x15_1 t256 t257 t258 false t242 t243 t244 t245 t252 t253 t254 t255)))) else (lockagelaw08_ChunkSplit.j4 kj20 l1 true t241 t246 t247 t248 x12_1 x13_1 x15_1 t256 t257 t258 false t242 t243 t244 t245 t252 t253 t254 t255)) = some r := H
                            have A29 := Aside0.mk A290
                            clear A290
                            have HC30 := Aside0.mk H
                            clear H
                            try go_wp2
                            have n0_ := Aside0.mk (blk_drew BK249.out)
                            have n1_ := Aside0.mk (blk_drew BK250.out)
                            have n2_ := Aside0.mk (below_drew1 HB.out)
                            clear BK249
                            clear BK250
                            clear HB
                            have BK249 := n0_
                            have BK250 := n1_
                            have HB := n2_
                            clear n0_ n1_ n2_
                            refine start_ (n := 16) (S := fun w' => w'.cell? ⟨gb250, 0, none⟩ = some (.int .i64 x251000_1) ∧ w'.cell? ⟨gb250, 1, none⟩ = some (.int .i64 x251001_1) ∧ w'.cell? ⟨gb250, 2, none⟩ = some (.string x251002_1) ∧ w'.cell? ⟨gb250, 3, none⟩ = some (.int .i64 x251003_1)) (ds := []) #[false, false, false, false, false, false, false, false, false, false, false, false, false, false, false, false] (by kernel_rfl) rfl rfl ⟨(blk_cell BK250.out 0).trans rfl, (blk_cell BK250.out 1).trans rfl, (blk_cell BK250.out 2).trans rfl, (blk_cell BK250.out 3).trans rfl⟩ (fun hHeld => ?_); refine with_tabW lockagelaw08_ChunkSplit.tab16 lockagelaw08_ChunkSplit.bits16 (fun HT_ HW_ => ?_)
                            generalize wc.drew = w31 at BK249 BK250 HB hHeld ⊢
                            refine pure_ (i := 1) (N := some 72) (v := ?_) (a' := ?_) #[false, true, false, false, false, false, false, false, false, false, false, false, false, false, false, false] rfl rfl (any_of HT_.out (by kernel_rfl)) (fun _ _ _ h => h) (Or.inl ⟨by rfl, ?_⟩) ?_ ?_
                            rotate_left
                            · intro w'
                              go_simp
                              with_reducible rfl
                            rotate_left
                            · simp only [Act.put, List.setIfInBounds_toArray, List.set_cons_zero, List.set_cons_succ, i64_w, i32_w]
                              rfl
                            refine pure_ (i := 2) (N := some 73) (v := ?_) (a' := ?_) #[false, true, true, false, false, false, false, false, false, false, false, false, false, false, false, false] rfl rfl (any_of HT_.out (by kernel_rfl)) (fun _ _ _ h => h) (Or.inl ⟨by rfl, ?_⟩) ?_ ?_
                            rotate_left
                            · intro w'
                              go_simp
                              with_reducible rfl
                            rotate_left
                            · simp only [Act.put, List.setIfInBounds_toArray, List.set_cons_zero, List.set_cons_succ, i64_w, i32_w]
                              rfl
                            refine pure_ (i := 3) (N := some 74) (v := ?_) (a' := ?_) #[false, true, true, true, false, false, false, false, false, false, false, false, false, false, false, false] rfl rfl (any_of HT_.out (by kernel_rfl)) (fun _ _ _ h => h) (Or.inl ⟨by rfl, ?_⟩) ?_ ?_
                            rotate_left
                            · intro w'
                              go_simp
                              with_reducible rfl
                            rotate_left
                            · simp only [Act.put, List.setIfInBounds_toArray, List.set_cons_zero, List.set_cons_succ, i64_w, i32_w]
                              rfl
                            refine pure_ (i := 4) (N := some 75) (v := ?_) (a' := ?_) #[false, true, true, true, true, false, false, false, false, false, false, false, false, false, false, false] rfl rfl (any_of HT_.out (by kernel_rfl)) (fun _ _ _ h => h) (Or.inl ⟨by rfl, ?_⟩) ?_ ?_
                            rotate_left
                            · intro w'
                              go_simp
                              with_reducible rfl
                            rotate_left
                            · simp only [Act.put, List.setIfInBounds_toArray, List.set_cons_zero, List.set_cons_succ, i64_w, i32_w]
                              rfl
                            refine take_ (i := 0) (N := some 71) (v := ?_) (a' := ?_) #[true, true, true, true, true, false, false, false, false, false, false, false, false, false, false, false] rfl rfl (take_ofW HT_.out HW_.out (by kernel_rfl)) (fun _ _ _ h => h) (Or.inl ⟨by rfl, ?_⟩) hHeld ?_ ?_
                            rotate_left
                            · rintro w' ⟨s0, s1, s2, s3⟩
                              go_simp
                              with_reducible rfl
                            rotate_left
                            · simp only [Act.put, List.setIfInBounds_toArray, List.set_cons_zero, List.set_cons_succ, i64_w, i32_w]
                              rfl
                            refine join_ (σ := Nat) 4 #[true, true, true, true, true, true, true, true, true, true, true, true, false, false, false, false] (fun s_ => [(76, .tuple #[.agg #[.int .i64 t252, .int .i64 t253, .string t254, .int .i64 t255], .int .i64 t256, .string t257, .int .i64 t258]), (18, .pointer (some ⟨s_, 0, none⟩)), (70, .tuple #[.agg #[.int .i64 t252, .int .i64 t253, .string t254, .int .i64 t255], .int .i64 t256, .string t257, .int .i64 t258]), (77, .agg #[.int .i64 t252, .int .i64 t253, .string t254, .int .i64 t255]), (78, .int .i64 t256), (79, .string t257), (80, .int .i64 t258)]) (fun s_ w' => (w'.cell? ⟨gb250, 0, none⟩ = some (.int .i64 x251000_1) ∧ w'.cell? ⟨gb250, 1, none⟩ = some (.int .i64 x251001_1) ∧ w'.cell? ⟨gb250, 2, none⟩ = some (.string x251002_1) ∧ w'.cell? ⟨gb250, 3, none⟩ = some (.int .i64 x251003_1)) ∧ (w'.heap[gb249]? = some (.cells #[.int .i64 t242, .int .i64 t243, .string t244, .int .i64 t245] 23 (0, 0))) ∧ (w'.heap[gb250]? = some (.cells #[.int .i64 x251000_1, .int .i64 x251001_1, .string x251002_1, .int .i64 x251003_1] 23 (0, 0))) ∧ (w'.heap[s_]? = some (.cells #[.int .i64 0, .int .i64 0, .string (⟨#[]⟩ : ByteArray), .int .i64 0] 23 (0, 0))) ∧ (w.heap.size ≤ s_) ∧ (w.heap.size ≤ s_) ∧ (gb249 ≠ s_) ∧ (s_ ≠ gb249) ∧ (gb250 ≠ s_) ∧ (s_ ≠ gb250) ∧ (Below w.heap.size w w')) ?_ ?_
                            rotate_left
                            · intro hCont
                              refine two_ (i := 5) (j := 11) (Ni := some 76) (Nj := some 18) #[true, true, true, true, true, true, false, false, false, false, false, false, false, false, false, false] #[true, true, true, true, true, false, false, false, false, false, false, true, false, false, false, false] rfl rfl rfl rfl (two_of HT_.out (by kernel_rfl)) (by decide) (by decide) (fun K hK => ?_) (fun K hK => ?_)
                              · skip
                                refine goes_ Tryd.func15 (by kernel_rfl) rfl #[.agg #[.int .i64 x251000_1, .int .i64 x251001_1, .string x251002_1, .int .i64 x251003_1], .string (t241.extract (x12_1 : Int).toNat ((ji25) : Int).toNat)] (by rfl) rfl rfl (by (try simp only [List.map_toArray, List.map_cons, List.map_nil]); first | done | (simp only [hji25]; rfl) | rfl | (simp only [List.length_drop, List.length_take]; rfl)) ?_
                                with_reducible refine (chunk_Feed.calls kj20 x251000_1 x251001_1 x251002_1 x251003_1 (t241.extract (x12_1 : Int).toNat ((ji25) : Int).toNat) t252 t253 t254 t255 t256 t257 t258 _ A29.out).mono ?_
                                rintro e w32 ⟨rfl, hb⟩
                                refine ⟨_, rfl, ?_⟩
                                have n0_ := Aside0.mk (blk_below (g := gb249) (o := .cells #[.int .i64 t242, .int .i64 t243, .string t244, .int .i64 t245] 23 (0, 0)) (by (with_reducible repeat (first | refine blk_drewN ?_ _ | refine blk_drew ?_ | refine blk_alloc ?_ _)); exact BK249.out) hb)
                                have n1_ := Aside0.mk (blk_below (g := gb250) (o := .cells #[.int .i64 x251000_1, .int .i64 x251001_1, .string x251002_1, .int .i64 x251003_1] 23 (0, 0)) (by (with_reducible repeat (first | refine blk_drewN ?_ _ | refine blk_drew ?_ | refine blk_alloc ?_ _)); exact BK250.out) hb)
                                have n2_ := Aside0.mk (below_step (by repeat (first | (with_reducible first | exact HB.out | apply below_alloc | apply pw_below_drewN | apply below_drew1 | refine below_set ?_ GE249.out | refine below_set ?_ GE250.out) | exact HB.out)) hb)
                                clear BK249
                                clear BK250
                                clear HB
                                have BK249 := n0_
                                have BK250 := n1_
                                have HB := n2_
                                clear n0_ n1_ n2_
                                (try clear hb)
                                (try clear hb2)
                                (try clear hk)
                                (try clear hi)
                                refine hK.out _ _ ⟨(blk_cell BK250.out 0).trans rfl, (blk_cell BK250.out 1).trans rfl, (blk_cell BK250.out 2).trans rfl, (blk_cell BK250.out 3).trans rfl⟩ (fun hHeld => ?_)
                                clear hK K
                                refine norm_ (a' := ?_) ?_ ?_
                                rotate_left
                                · show Act.put _ (some 76) _ = _
                                  simp only [Act.put, List.setIfInBounds_toArray, List.set_cons_zero, List.set_cons_succ, i64_w, i32_w]
                                  rfl
                                refine pure_ (i := 6) (N := some 70) (v := ?_) (a' := ?_) #[true, true, true, true, true, true, true, false, false, false, false, false, false, false, false, false] rfl rfl (any_of HT_.out (by kernel_rfl)) (fun _ _ _ h => h) (Or.inl ⟨by rfl, ?_⟩) ?_ ?_
                                rotate_left
                                · intro w'
                                  go_simp
                                  with_reducible rfl
                                rotate_left
                                · simp only [Act.put, List.setIfInBounds_toArray, List.set_cons_zero, List.set_cons_succ, i64_w, i32_w]
                                  rfl
                                refine pure_ (i := 7) (N := some 77) (v := ?_) (a' := ?_) #[true, true, true, true, true, true, true, true, false, false, false, false, false, false, false, false] rfl rfl (any_of HT_.out (by kernel_rfl)) (fun _ _ _ h => h) (Or.inl ⟨by rfl, ?_⟩) ?_ ?_
                                rotate_left
                                · intro w'
                                  go_simp
                                  with_reducible rfl
                                rotate_left
                                · simp only [Act.put, List.setIfInBounds_toArray, List.set_cons_zero, List.set_cons_succ, i64_w, i32_w]
                                  rfl
                                refine pure_ (i := 8) (N := some 78) (v := ?_) (a' := ?_) #[true, true, true, true, true, true, true, true, true, false, false, false, false, false, false, false] rfl rfl (any_of HT_.out (by kernel_rfl)) (fun _ _ _ h => h) (Or.inl ⟨by rfl, ?_⟩) ?_ ?_
                                rotate_left
                                · intro w'
                                  go_simp
                                  with_reducible rfl
                                rotate_left
                                · simp only [Act.put, List.setIfInBounds_toArray, List.set_cons_zero, List.set_cons_succ, i64_w, i32_w]
                                  rfl
                                refine pure_ (i := 9) (N := some 79) (v := ?_) (a' := ?_) #[true, true, true, true, true, true, true, true, true, true, false, false, false, false, false, false] rfl rfl (any_of HT_.out (by kernel_rfl)) (fun _ _ _ h => h) (Or.inl ⟨by rfl, ?_⟩) ?_ ?_
                                rotate_left
                                · intro w'
                                  go_simp
                                  with_reducible rfl
                                rotate_left
                                · simp only [Act.put, List.setIfInBounds_toArray, List.set_cons_zero, List.set_cons_succ, i64_w, i32_w]
                                  rfl
                                refine pure_ (i := 10) (N := some 80) (v := ?_) (a' := ?_) #[true, true, true, true, true, true, true, true, true, true, true, false, false, false, false, false] rfl rfl (any_of HT_.out (by kernel_rfl)) (fun _ _ _ h => h) (Or.inl ⟨by rfl, ?_⟩) ?_ ?_
                                rotate_left
                                · intro w'
                                  go_simp
                                  with_reducible rfl
                                rotate_left
                                · simp only [Act.put, List.setIfInBounds_toArray, List.set_cons_zero, List.set_cons_succ, i64_w, i32_w]
                                  rfl
                                refine one_ (i := 11) (N := some 18) #[true, true, true, true, true, true, true, true, true, true, true, true, false, false, false, false] rfl rfl (one_of HT_.out (by kernel_rfl)) (by decide) (fun K hK => ?_)
                                refine box_step ?hg (N := 18) ?hd (cs := #[.int .i64 0, .int .i64 0, .string (⟨#[]⟩ : ByteArray), .int .i64 0]) (t := 23) ?hr ?_; (case hd => rfl); (case hg => rfl); (case hr => first | (go_simp; done) | (go_simp; rfl))
                                intro gb259 hg w33 hbox hb
                                have n0_ := Aside0.mk (blk_below (g := gb249) (o := .cells #[.int .i64 t242, .int .i64 t243, .string t244, .int .i64 t245] 23 (0, 0)) (by (with_reducible repeat (first | refine blk_drewN ?_ _ | refine blk_drew ?_ | refine blk_alloc ?_ _)); exact BK249.out) hb)
                                have n1_ := Aside0.mk (blk_below (g := gb250) (o := .cells #[.int .i64 x251000_1, .int .i64 x251001_1, .string x251002_1, .int .i64 x251003_1] 23 (0, 0)) (by (with_reducible repeat (first | refine blk_drewN ?_ _ | refine blk_drew ?_ | refine blk_alloc ?_ _)); exact BK250.out) hb)
                                have n2_ := Aside0.mk (below_step (by repeat (first | (with_reducible first | exact HB.out | apply below_alloc | apply pw_below_drewN | apply below_drew1 | refine below_set ?_ GE249.out | refine below_set ?_ GE250.out) | exact HB.out)) hb)
                                have n3_ := Aside0.mk (hbox)
                                have n4_ := Aside0.mk ((by rw [hg]; exact (below_size (by repeat (first | (with_reducible first | exact HB.out | apply below_alloc | apply pw_below_drewN | apply below_drew1 | refine below_set ?_ GE249.out | refine below_set ?_ GE250.out) | exact HB.out))) : w.heap.size ≤ gb259))
                                have n5_ := Aside0.mk ((by rw [hg]; exact (below_size (by repeat (first | (with_reducible first | exact HB.out | apply below_alloc | apply pw_below_drewN | apply below_drew1 | refine below_set ?_ GE249.out | refine below_set ?_ GE250.out) | exact HB.out))) : w.heap.size ≤ gb259))
                                have n6_ := Aside0.mk ((by rw [hg]; exact Nat.ne_of_lt (blk_lt (g := gb249) (o := .cells #[.int .i64 t242, .int .i64 t243, .string t244, .int .i64 t245] 23 (0, 0)) (by (with_reducible repeat (first | refine blk_drewN ?_ _ | refine blk_drew ?_ | refine blk_alloc ?_ _)); exact BK249.out)) : gb249 ≠ gb259))
                                have n7_ := Aside0.mk ((by rw [hg]; exact Nat.ne_of_gt (blk_lt (g := gb249) (o := .cells #[.int .i64 t242, .int .i64 t243, .string t244, .int .i64 t245] 23 (0, 0)) (by (with_reducible repeat (first | refine blk_drewN ?_ _ | refine blk_drew ?_ | refine blk_alloc ?_ _)); exact BK249.out)) : gb259 ≠ gb249))
                                have n8_ := Aside0.mk ((by rw [hg]; exact Nat.ne_of_lt (blk_lt (g := gb250) (o := .cells #[.int .i64 x251000_1, .int .i64 x251001_1, .string x251002_1, .int .i64 x251003_1] 23 (0, 0)) (by (with_reducible repeat (first | refine blk_drewN ?_ _ | refine blk_drew ?_ | refine blk_alloc ?_ _)); exact BK250.out)) : gb250 ≠ gb259))
                                have n9_ := Aside0.mk ((by rw [hg]; exact Nat.ne_of_gt (blk_lt (g := gb250) (o := .cells #[.int .i64 x251000_1, .int .i64 x251001_1, .string x251002_1, .int .i64 x251003_1] 23 (0, 0)) (by (with_reducible repeat (first | refine blk_drewN ?_ _ | refine blk_drew ?_ | refine blk_alloc ?_ _)); exact BK250.out)) : gb259 ≠ gb250))
                                clear BK249
                                clear BK250
                                clear HB
                                have BK249 := n0_
                                have BK250 := n1_
                                have HB := n2_
                                have BK259 := n3_
                                have GW259 := n4_
                                have GE259 := n5_
                                have NB249_259 := n6_
                                have NB259_249 := n7_
                                have NB250_259 := n8_
                                have NB259_250 := n9_
                                clear n0_ n1_ n2_ n3_ n4_ n5_ n6_ n7_ n8_ n9_
                                clear hb hbox hg
                                refine hK.out _ _ ⟨(blk_cell BK250.out 0).trans rfl, (blk_cell BK250.out 1).trans rfl, (blk_cell BK250.out 2).trans rfl, (blk_cell BK250.out 3).trans rfl⟩ (fun hHeld => ?_)
                                clear hK K
                                refine norm_ (a' := ?_) ?_ ?_
                                rotate_left
                                · show Act.put _ (some 18) _ = _
                                  simp only [Act.put, List.setIfInBounds_toArray, List.set_cons_zero, List.set_cons_succ, i64_w, i32_w]
                                  rfl
                                exact norm_ (by simp only [putAll, Act.put, List.setIfInBounds_toArray, List.set_cons_zero, List.set_cons_succ]) (hCont (gb259) _ ⟨hHeld, (by (with_reducible repeat (first | refine blk_drewN ?_ _ | refine blk_drew ?_ | refine blk_alloc ?_ _)); exact BK249.out), (by (with_reducible repeat (first | refine blk_drewN ?_ _ | refine blk_drew ?_ | refine blk_alloc ?_ _)); exact BK250.out), (by (with_reducible repeat (first | refine blk_drewN ?_ _ | refine blk_drew ?_ | refine blk_alloc ?_ _)); exact BK259.out), GW259.out, GE259.out, NB249_259.out, NB259_249.out, NB250_259.out, NB259_250.out, (by repeat (first | (with_reducible first | exact HB.out | apply below_alloc | apply pw_below_drewN | apply below_drew1 | refine below_set ?_ GE249.out | refine below_set ?_ GE250.out | refine below_set ?_ GE259.out) | exact HB.out))⟩)
                              · skip
                                refine box_step ?hg (N := 18) ?hd (cs := #[.int .i64 0, .int .i64 0, .string (⟨#[]⟩ : ByteArray), .int .i64 0]) (t := 23) ?hr ?_; (case hd => rfl); (case hg => rfl); (case hr => first | (go_simp; done) | (go_simp; rfl))
                                intro gb259 hg w32 hbox hb
                                have n0_ := Aside0.mk (blk_below (g := gb249) (o := .cells #[.int .i64 t242, .int .i64 t243, .string t244, .int .i64 t245] 23 (0, 0)) (by (with_reducible repeat (first | refine blk_drewN ?_ _ | refine blk_drew ?_ | refine blk_alloc ?_ _)); exact BK249.out) hb)
                                have n1_ := Aside0.mk (blk_below (g := gb250) (o := .cells #[.int .i64 x251000_1, .int .i64 x251001_1, .string x251002_1, .int .i64 x251003_1] 23 (0, 0)) (by (with_reducible repeat (first | refine blk_drewN ?_ _ | refine blk_drew ?_ | refine blk_alloc ?_ _)); exact BK250.out) hb)
                                have n2_ := Aside0.mk (below_step (by repeat (first | (with_reducible first | exact HB.out | apply below_alloc | apply pw_below_drewN | apply below_drew1 | refine below_set ?_ GE249.out | refine below_set ?_ GE250.out) | exact HB.out)) hb)
                                have n3_ := Aside0.mk (hbox)
                                have n4_ := Aside0.mk ((by rw [hg]; exact (below_size (by repeat (first | (with_reducible first | exact HB.out | apply below_alloc | apply pw_below_drewN | apply below_drew1 | refine below_set ?_ GE249.out | refine below_set ?_ GE250.out) | exact HB.out))) : w.heap.size ≤ gb259))
                                have n5_ := Aside0.mk ((by rw [hg]; exact (below_size (by repeat (first | (with_reducible first | exact HB.out | apply below_alloc | apply pw_below_drewN | apply below_drew1 | refine below_set ?_ GE249.out | refine below_set ?_ GE250.out) | exact HB.out))) : w.heap.size ≤ gb259))
                                have n6_ := Aside0.mk ((by rw [hg]; exact Nat.ne_of_lt (blk_lt (g := gb249) (o := .cells #[.int .i64 t242, .int .i64 t243, .string t244, .int .i64 t245] 23 (0, 0)) (by (with_reducible repeat (first | refine blk_drewN ?_ _ | refine blk_drew ?_ | refine blk_alloc ?_ _)); exact BK249.out)) : gb249 ≠ gb259))
                                have n7_ := Aside0.mk ((by rw [hg]; exact Nat.ne_of_gt (blk_lt (g := gb249) (o := .cells #[.int .i64 t242, .int .i64 t243, .string t244, .int .i64 t245] 23 (0, 0)) (by (with_reducible repeat (first | refine blk_drewN ?_ _ | refine blk_drew ?_ | refine blk_alloc ?_ _)); exact BK249.out)) : gb259 ≠ gb249))
                                have n8_ := Aside0.mk ((by rw [hg]; exact Nat.ne_of_lt (blk_lt (g := gb250) (o := .cells #[.int .i64 x251000_1, .int .i64 x251001_1, .string x251002_1, .int .i64 x251003_1] 23 (0, 0)) (by (with_reducible repeat (first | refine blk_drewN ?_ _ | refine blk_drew ?_ | refine blk_alloc ?_ _)); exact BK250.out)) : gb250 ≠ gb259))
                                have n9_ := Aside0.mk ((by rw [hg]; exact Nat.ne_of_gt (blk_lt (g := gb250) (o := .cells #[.int .i64 x251000_1, .int .i64 x251001_1, .string x251002_1, .int .i64 x251003_1] 23 (0, 0)) (by (with_reducible repeat (first | refine blk_drewN ?_ _ | refine blk_drew ?_ | refine blk_alloc ?_ _)); exact BK250.out)) : gb259 ≠ gb250))
                                clear BK249
                                clear BK250
                                clear HB
                                have BK249 := n0_
                                have BK250 := n1_
                                have HB := n2_
                                have BK259 := n3_
                                have GW259 := n4_
                                have GE259 := n5_
                                have NB249_259 := n6_
                                have NB259_249 := n7_
                                have NB250_259 := n8_
                                have NB259_250 := n9_
                                clear n0_ n1_ n2_ n3_ n4_ n5_ n6_ n7_ n8_ n9_
                                clear hb hbox hg
                                refine hK.out _ _ ⟨(blk_cell BK250.out 0).trans rfl, (blk_cell BK250.out 1).trans rfl, (blk_cell BK250.out 2).trans rfl, (blk_cell BK250.out 3).trans rfl⟩ (fun hHeld => ?_)
                                clear hK K
                                refine norm_ (a' := ?_) ?_ ?_
                                rotate_left
                                · show Act.put _ (some 18) _ = _
                                  simp only [Act.put, List.setIfInBounds_toArray, List.set_cons_zero, List.set_cons_succ, i64_w, i32_w]
                                  rfl
                                refine one_ (i := 5) (N := some 76) #[true, true, true, true, true, true, false, false, false, false, false, true, false, false, false, false] rfl rfl (one_of HT_.out (by kernel_rfl)) (by decide) (fun K hK => ?_)
                                refine goes_ Tryd.func15 (by kernel_rfl) rfl #[.agg #[.int .i64 x251000_1, .int .i64 x251001_1, .string x251002_1, .int .i64 x251003_1], .string (t241.extract (x12_1 : Int).toNat ((ji25) : Int).toNat)] (by rfl) rfl rfl (by (try simp only [List.map_toArray, List.map_cons, List.map_nil]); first | done | (simp only [hji25]; rfl) | rfl | (simp only [List.length_drop, List.length_take]; rfl)) ?_
                                with_reducible refine (chunk_Feed.calls kj20 x251000_1 x251001_1 x251002_1 x251003_1 (t241.extract (x12_1 : Int).toNat ((ji25) : Int).toNat) t252 t253 t254 t255 t256 t257 t258 _ A29.out).mono ?_
                                rintro e w33 ⟨rfl, hb⟩
                                refine ⟨_, rfl, ?_⟩
                                have n0_ := Aside0.mk (blk_below (g := gb249) (o := .cells #[.int .i64 t242, .int .i64 t243, .string t244, .int .i64 t245] 23 (0, 0)) (by (with_reducible repeat (first | refine blk_drewN ?_ _ | refine blk_drew ?_ | refine blk_alloc ?_ _)); exact BK249.out) hb)
                                have n1_ := Aside0.mk (blk_below (g := gb250) (o := .cells #[.int .i64 x251000_1, .int .i64 x251001_1, .string x251002_1, .int .i64 x251003_1] 23 (0, 0)) (by (with_reducible repeat (first | refine blk_drewN ?_ _ | refine blk_drew ?_ | refine blk_alloc ?_ _)); exact BK250.out) hb)
                                have n2_ := Aside0.mk (blk_below (g := gb259) (o := .cells #[.int .i64 0, .int .i64 0, .string (⟨#[]⟩ : ByteArray), .int .i64 0] 23 (0, 0)) (by (with_reducible repeat (first | refine blk_drewN ?_ _ | refine blk_drew ?_ | refine blk_alloc ?_ _)); exact BK259.out) hb)
                                have n3_ := Aside0.mk (below_step (by repeat (first | (with_reducible first | exact HB.out | apply below_alloc | apply pw_below_drewN | apply below_drew1 | refine below_set ?_ GE249.out | refine below_set ?_ GE250.out | refine below_set ?_ GE259.out) | exact HB.out)) hb)
                                clear BK249
                                clear BK250
                                clear BK259
                                clear HB
                                have BK249 := n0_
                                have BK250 := n1_
                                have BK259 := n2_
                                have HB := n3_
                                clear n0_ n1_ n2_ n3_
                                (try clear hb)
                                (try clear hb2)
                                (try clear hk)
                                (try clear hi)
                                refine hK.out _ _ ⟨(blk_cell BK250.out 0).trans rfl, (blk_cell BK250.out 1).trans rfl, (blk_cell BK250.out 2).trans rfl, (blk_cell BK250.out 3).trans rfl⟩ (fun hHeld => ?_)
                                clear hK K
                                refine norm_ (a' := ?_) ?_ ?_
                                rotate_left
                                · show Act.put _ (some 76) _ = _
                                  simp only [Act.put, List.setIfInBounds_toArray, List.set_cons_zero, List.set_cons_succ, i64_w, i32_w]
                                  rfl
                                refine pure_ (i := 6) (N := some 70) (v := ?_) (a' := ?_) #[true, true, true, true, true, true, true, false, false, false, false, true, false, false, false, false] rfl rfl (any_of HT_.out (by kernel_rfl)) (fun _ _ _ h => h) (Or.inl ⟨by rfl, ?_⟩) ?_ ?_
                                rotate_left
                                · intro w'
                                  go_simp
                                  with_reducible rfl
                                rotate_left
                                · simp only [Act.put, List.setIfInBounds_toArray, List.set_cons_zero, List.set_cons_succ, i64_w, i32_w]
                                  rfl
                                refine pure_ (i := 7) (N := some 77) (v := ?_) (a' := ?_) #[true, true, true, true, true, true, true, true, false, false, false, true, false, false, false, false] rfl rfl (any_of HT_.out (by kernel_rfl)) (fun _ _ _ h => h) (Or.inl ⟨by rfl, ?_⟩) ?_ ?_
                                rotate_left
                                · intro w'
                                  go_simp
                                  with_reducible rfl
                                rotate_left
                                · simp only [Act.put, List.setIfInBounds_toArray, List.set_cons_zero, List.set_cons_succ, i64_w, i32_w]
                                  rfl
                                refine pure_ (i := 8) (N := some 78) (v := ?_) (a' := ?_) #[true, true, true, true, true, true, true, true, true, false, false, true, false, false, false, false] rfl rfl (any_of HT_.out (by kernel_rfl)) (fun _ _ _ h => h) (Or.inl ⟨by rfl, ?_⟩) ?_ ?_
                                rotate_left
                                · intro w'
                                  go_simp
                                  with_reducible rfl
                                rotate_left
                                · simp only [Act.put, List.setIfInBounds_toArray, List.set_cons_zero, List.set_cons_succ, i64_w, i32_w]
                                  rfl
                                refine pure_ (i := 9) (N := some 79) (v := ?_) (a' := ?_) #[true, true, true, true, true, true, true, true, true, true, false, true, false, false, false, false] rfl rfl (any_of HT_.out (by kernel_rfl)) (fun _ _ _ h => h) (Or.inl ⟨by rfl, ?_⟩) ?_ ?_
                                rotate_left
                                · intro w'
                                  go_simp
                                  with_reducible rfl
                                rotate_left
                                · simp only [Act.put, List.setIfInBounds_toArray, List.set_cons_zero, List.set_cons_succ, i64_w, i32_w]
                                  rfl
                                refine pure_ (i := 10) (N := some 80) (v := ?_) (a' := ?_) #[true, true, true, true, true, true, true, true, true, true, true, true, false, false, false, false] rfl rfl (any_of HT_.out (by kernel_rfl)) (fun _ _ _ h => h) (Or.inl ⟨by rfl, ?_⟩) ?_ ?_
                                rotate_left
                                · intro w'
                                  go_simp
                                  with_reducible rfl
                                rotate_left
                                · simp only [Act.put, List.setIfInBounds_toArray, List.set_cons_zero, List.set_cons_succ, i64_w, i32_w]
                                  rfl
                                exact norm_ (by simp only [putAll, Act.put, List.setIfInBounds_toArray, List.set_cons_zero, List.set_cons_succ]) (hCont (gb259) _ ⟨hHeld, (by (with_reducible repeat (first | refine blk_drewN ?_ _ | refine blk_drew ?_ | refine blk_alloc ?_ _)); exact BK249.out), (by (with_reducible repeat (first | refine blk_drewN ?_ _ | refine blk_drew ?_ | refine blk_alloc ?_ _)); exact BK250.out), (by (with_reducible repeat (first | refine blk_drewN ?_ _ | refine blk_drew ?_ | refine blk_alloc ?_ _)); exact BK259.out), GW259.out, GE259.out, NB249_259.out, NB259_249.out, NB250_259.out, NB259_250.out, (by repeat (first | (with_reducible first | exact HB.out | apply below_alloc | apply pw_below_drewN | apply below_drew1 | refine below_set ?_ GE249.out | refine below_set ?_ GE250.out | refine below_set ?_ GE259.out) | exact HB.out))⟩)
                            rintro gb259 w34 ⟨hS_, h0_, h1_, h2_, h3_, h4_, h5_, h6_, h7_, h8_, h9_⟩
                            have n0_ : Aside0 (w34.heap[gb249]? = some (.cells #[.int .i64 t242, .int .i64 t243, .string t244, .int .i64 t245] 23 (0, 0))) := ⟨h0_⟩
                            have n1_ : Aside0 (w34.heap[gb250]? = some (.cells #[.int .i64 x251000_1, .int .i64 x251001_1, .string x251002_1, .int .i64 x251003_1] 23 (0, 0))) := ⟨h1_⟩
                            have n2_ : Aside0 (w34.heap[gb259]? = some (.cells #[.int .i64 0, .int .i64 0, .string (⟨#[]⟩ : ByteArray), .int .i64 0] 23 (0, 0))) := ⟨h2_⟩
                            have n3_ : Aside0 (w.heap.size ≤ gb259) := ⟨h3_⟩
                            have n4_ : Aside0 (w.heap.size ≤ gb259) := ⟨h4_⟩
                            have n5_ : Aside0 (gb249 ≠ gb259) := ⟨h5_⟩
                            have n6_ : Aside0 (gb259 ≠ gb249) := ⟨h6_⟩
                            have n7_ : Aside0 (gb250 ≠ gb259) := ⟨h7_⟩
                            have n8_ : Aside0 (gb259 ≠ gb250) := ⟨h8_⟩
                            have n9_ : Aside0 (Below w.heap.size w w34) := ⟨h9_⟩
                            clear BK249
                            clear BK250
                            clear HB
                            clear h0_ h1_ h2_ h3_ h4_ h5_ h6_ h7_ h8_ h9_
                            have BK249 := n0_
                            have BK250 := n1_
                            have BK259 := n2_
                            have GW259 := n3_
                            have GE259 := n4_
                            have NB249_259 := n5_
                            have NB259_249 := n6_
                            have NB250_259 := n7_
                            have NB259_250 := n8_
                            have HB := n9_
                            clear n0_ n1_ n2_ n3_ n4_ n5_ n6_ n7_ n8_ n9_
                            have hHeld : w34.cell? ⟨gb250, 0, none⟩ = some (.int .i64 x251000_1) ∧ w34.cell? ⟨gb250, 1, none⟩ = some (.int .i64 x251001_1) ∧ w34.cell? ⟨gb250, 2, none⟩ = some (.string x251002_1) ∧ w34.cell? ⟨gb250, 3, none⟩ = some (.int .i64 x251003_1) := hS_
                            refine norm_ (a' := ?_) ?_ ?_
                            rotate_left
                            · simp only [putAll, Act.put, List.setIfInBounds_toArray, List.set_cons_zero, List.set_cons_succ]
                              rfl
                            refine one_ (i := 12) (N := none) #[true, true, true, true, true, true, true, true, true, true, true, true, true, false, false, false] rfl rfl (one_of HT_.out (by kernel_rfl)) (by decide) (fun K hK => ?_)
                            have hs35 : w34.cell? ⟨gb259, 0, none⟩ = some (.int .i64 0) := (blk_cell BK259.out 0).trans rfl
                            have hfs35 := blk_frozen BK259.out 0
                            have hns35_0 := NB249_259.out
                            have hns35_1 := NB250_259.out
                            have hms35_0 := NB259_249.out
                            have hms35_1 := NB259_250.out
                            have hs36 : w34.cell? ⟨gb259, 1, none⟩ = some (.int .i64 0) := (blk_cell BK259.out 1).trans rfl
                            have hfs36 := blk_frozen BK259.out 1
                            have hns36_0 := NB249_259.out
                            have hns36_1 := NB250_259.out
                            have hms36_0 := NB259_249.out
                            have hms36_1 := NB259_250.out
                            have hs37 : w34.cell? ⟨gb259, 2, none⟩ = some (.string (⟨#[]⟩ : ByteArray)) := (blk_cell BK259.out 2).trans rfl
                            have hfs37 := blk_frozen BK259.out 2
                            have hns37_0 := NB249_259.out
                            have hns37_1 := NB250_259.out
                            have hms37_0 := NB259_249.out
                            have hms37_1 := NB259_250.out
                            have hs38 : w34.cell? ⟨gb259, 3, none⟩ = some (.int .i64 0) := (blk_cell BK259.out 3).trans rfl
                            have hfs38 := blk_frozen BK259.out 3
                            have hns38_0 := NB249_259.out
                            have hns38_1 := NB250_259.out
                            have hms38_0 := NB259_249.out
                            have hms38_1 := NB259_250.out
                            refine skip_ (w1 := ?_) (by rfl) rfl ?_ ?_
                            rotate_left
                            · go_simp
                              rfl
                            refine hK.out _ _ ⟨((cell_far (p := ⟨gb259, _, none⟩) NB250_259.out _).trans (((cell_far (p := ⟨gb259, _, none⟩) NB250_259.out _).trans (((cell_far (p := ⟨gb259, _, none⟩) NB250_259.out _).trans (((cell_far (p := ⟨gb259, _, none⟩) NB250_259.out _).trans (hHeld.1)))))))), ((cell_far (p := ⟨gb259, _, none⟩) NB250_259.out _).trans (((cell_far (p := ⟨gb259, _, none⟩) NB250_259.out _).trans (((cell_far (p := ⟨gb259, _, none⟩) NB250_259.out _).trans (((cell_far (p := ⟨gb259, _, none⟩) NB250_259.out _).trans (hHeld.2.1)))))))), ((cell_far (p := ⟨gb259, _, none⟩) NB250_259.out _).trans (((cell_far (p := ⟨gb259, _, none⟩) NB250_259.out _).trans (((cell_far (p := ⟨gb259, _, none⟩) NB250_259.out _).trans (((cell_far (p := ⟨gb259, _, none⟩) NB250_259.out _).trans (hHeld.2.2.1)))))))), ((cell_far (p := ⟨gb259, _, none⟩) NB250_259.out _).trans (((cell_far (p := ⟨gb259, _, none⟩) NB250_259.out _).trans (((cell_far (p := ⟨gb259, _, none⟩) NB250_259.out _).trans (((cell_far (p := ⟨gb259, _, none⟩) NB250_259.out _).trans (hHeld.2.2.2))))))))⟩ (fun hHeld => ?_)
                            clear hK K
                            refine pure_ (i := 13) (N := some 19) (v := ?_) (a' := ?_) #[true, true, true, true, true, true, true, true, true, true, true, true, true, true, false, false] rfl rfl (any_of HT_.out (by kernel_rfl)) (fun _ _ _ h => h) (Or.inl ⟨by rfl, ?_⟩) ?_ ?_
                            rotate_left
                            · intro w'
                              go_simp
                              with_reducible rfl
                            rotate_left
                            · simp only [Act.put, List.setIfInBounds_toArray, List.set_cons_zero, List.set_cons_succ, i64_w, i32_w]
                              rfl
                            refine pure_ (i := 14) (N := some 20) (v := ?_) (a' := ?_) #[true, true, true, true, true, true, true, true, true, true, true, true, true, true, true, false] rfl rfl (any_of HT_.out (by kernel_rfl)) (fun _ _ _ h => h) (Or.inl ⟨by rfl, ?_⟩) ?_ ?_
                            rotate_left
                            · intro w'
                              go_simp
                              with_reducible rfl
                            rotate_left
                            · simp only [Act.put, List.setIfInBounds_toArray, List.set_cons_zero, List.set_cons_succ, i64_w, i32_w]
                              rfl
                            refine pure_ (i := 15) (N := some 21) (v := ?_) (a' := ?_) #[true, true, true, true, true, true, true, true, true, true, true, true, true, true, true, true] rfl rfl (any_of HT_.out (by kernel_rfl)) (fun _ _ _ h => h) (Or.inl ⟨by rfl, ?_⟩) ?_ ?_
                            rotate_left
                            · intro w'
                              go_simp
                              with_reducible rfl
                            rotate_left
                            · simp only [Act.put, List.setIfInBounds_toArray, List.set_cons_zero, List.set_cons_succ, i64_w, i32_w]
                              rfl
                            refine done_ (done_of HT_.out (by kernel_rfl)) ?_
                            go_upto_region 17 with (fail)
                            go_cut [105] (fun v105 wc => ∃ (kq : Nat) (x105_29 : Bool), v105 = .bool x105_29 ∧ Aside0 (lockagelaw08_ChunkSplit.j4 kq l1 true t241 t246 t247 t248 x12_1 x13_1 x15_1 t256 t257 t258 x105_29 t242 t243 t244 t245 t252 t253 t254 t255 = some r) ∧ Aside0 (kq ≤ kj20) ∧ Aside0 (wc.heap[gb249]? = some (.cells #[.int .i64 t242, .int .i64 t243, .string t244, .int .i64 t245] 23 (0, 0))) ∧ Aside0 (wc.heap[gb250]? = some (.cells #[.int .i64 x251000_1, .int .i64 x251001_1, .string x251002_1, .int .i64 x251003_1] 23 (0, 0))) ∧ Aside0 (wc.heap[gb259]? = some (.cells #[.int .i64 t252, .int .i64 t253, .string t254, .int .i64 t255] 23 (0, 0))) ∧ Aside0 (Below w.heap.size w wc))
                            case first =>
                              have H := HC30.out
                              clear HC30
                              by_cases c39 : t258 = 0
                              · rw [if_pos c39] at H
                                have c39b0 : (t258 == 0) = true := beq_iff_eq.mpr c39
                                have c39b1 : (t258 != 0) = false := bne_eq_false_iff_eq.mpr c39
                                clear c39
                                (first | rw [c39b0] | (simp only [i64_w, i32_w]; rw [c39b0]) | skip)
                                by_cases c40 : t256 < 0
                                · rw [if_pos c40] at H
                                  have c40b0 : decide (t256 < 0) = true := decide_eq_true c40
                                  clear c40
                                  have H' := Aside0.mk H
                                  clear H
                                  go_wp2
                                  go_meet
                                  case rel => exact ⟨_, (true), (by first | rfl | (simp; done) | (simp [*]; done)), H', ⟨by have := HK1.out; have := HJ12.out; have := HJ18.out; have := HJ20.out; first | omega | exact Nat.le_refl _⟩, ⟨by (with_reducible repeat (first | refine blk_drewN ?_ _ | refine blk_drew ?_ | refine blk_alloc ?_ _)); refine blk_far ?_ NB249_259.out _; (with_reducible repeat (first | refine blk_drewN ?_ _ | refine blk_drew ?_ | refine blk_alloc ?_ _)); refine blk_far ?_ NB249_259.out _; (with_reducible repeat (first | refine blk_drewN ?_ _ | refine blk_drew ?_ | refine blk_alloc ?_ _)); refine blk_far ?_ NB249_259.out _; (with_reducible repeat (first | refine blk_drewN ?_ _ | refine blk_drew ?_ | refine blk_alloc ?_ _)); refine blk_far ?_ NB249_259.out _; (with_reducible repeat (first | refine blk_drewN ?_ _ | refine blk_drew ?_ | refine blk_alloc ?_ _)); exact BK249.out⟩, ⟨by (with_reducible repeat (first | refine blk_drewN ?_ _ | refine blk_drew ?_ | refine blk_alloc ?_ _)); refine blk_far ?_ NB250_259.out _; (with_reducible repeat (first | refine blk_drewN ?_ _ | refine blk_drew ?_ | refine blk_alloc ?_ _)); refine blk_far ?_ NB250_259.out _; (with_reducible repeat (first | refine blk_drewN ?_ _ | refine blk_drew ?_ | refine blk_alloc ?_ _)); refine blk_far ?_ NB250_259.out _; (with_reducible repeat (first | refine blk_drewN ?_ _ | refine blk_drew ?_ | refine blk_alloc ?_ _)); refine blk_far ?_ NB250_259.out _; (with_reducible repeat (first | refine blk_drewN ?_ _ | refine blk_drew ?_ | refine blk_alloc ?_ _)); exact BK250.out⟩, ⟨by (with_reducible repeat (first | refine blk_drewN ?_ _ | refine blk_drew ?_ | refine blk_alloc ?_ _)); refine blk_put (cs := #[.int .i64 t252, .int .i64 t253, .string t254, .int .i64 0]) ?_ 3 _ rfl; (with_reducible repeat (first | refine blk_drewN ?_ _ | refine blk_drew ?_ | refine blk_alloc ?_ _)); refine blk_put (cs := #[.int .i64 t252, .int .i64 t253, .string (⟨#[]⟩ : ByteArray), .int .i64 0]) ?_ 2 _ rfl; (with_reducible repeat (first | refine blk_drewN ?_ _ | refine blk_drew ?_ | refine blk_alloc ?_ _)); refine blk_put (cs := #[.int .i64 t252, .int .i64 0, .string (⟨#[]⟩ : ByteArray), .int .i64 0]) ?_ 1 _ rfl; (with_reducible repeat (first | refine blk_drewN ?_ _ | refine blk_drew ?_ | refine blk_alloc ?_ _)); refine blk_put (cs := #[.int .i64 0, .int .i64 0, .string (⟨#[]⟩ : ByteArray), .int .i64 0]) ?_ 0 _ rfl; (with_reducible repeat (first | refine blk_drewN ?_ _ | refine blk_drew ?_ | refine blk_alloc ?_ _)); exact BK259.out⟩, ⟨by repeat (first | (with_reducible first | exact HB.out | apply below_alloc | apply pw_below_drewN | apply below_drew1 | refine below_set ?_ GE249.out | refine below_set ?_ GE250.out | refine below_set ?_ GE259.out) | exact HB.out)⟩⟩
                                · rw [if_neg c40] at H
                                  have c40b0 : decide (t256 < 0) = false := decide_eq_false c40
                                  clear c40
                                  by_cases c41 : t256 > (wrap64 ((ji25) - x12_1))
                                  · rw [if_pos c41] at H
                                    have c41b0 : decide ((wrap64 ((ji25) - x12_1)) < t256) = true := decide_eq_true c41
                                    clear c41
                                    have H' := Aside0.mk H
                                    clear H
                                    go_wp2
                                    go_meet
                                    case rel => exact ⟨_, (true), (by first | rfl | (simp; done) | (simp [*]; done)), H', ⟨by have := HK1.out; have := HJ12.out; have := HJ18.out; have := HJ20.out; first | omega | exact Nat.le_refl _⟩, ⟨by (with_reducible repeat (first | refine blk_drewN ?_ _ | refine blk_drew ?_ | refine blk_alloc ?_ _)); refine blk_far ?_ NB249_259.out _; (with_reducible repeat (first | refine blk_drewN ?_ _ | refine blk_drew ?_ | refine blk_alloc ?_ _)); refine blk_far ?_ NB249_259.out _; (with_reducible repeat (first | refine blk_drewN ?_ _ | refine blk_drew ?_ | refine blk_alloc ?_ _)); refine blk_far ?_ NB249_259.out _; (with_reducible repeat (first | refine blk_drewN ?_ _ | refine blk_drew ?_ | refine blk_alloc ?_ _)); refine blk_far ?_ NB249_259.out _; (with_reducible repeat (first | refine blk_drewN ?_ _ | refine blk_drew ?_ | refine blk_alloc ?_ _)); exact BK249.out⟩, ⟨by (with_reducible repeat (first | refine blk_drewN ?_ _ | refine blk_drew ?_ | refine blk_alloc ?_ _)); refine blk_far ?_ NB250_259.out _; (with_reducible repeat (first | refine blk_drewN ?_ _ | refine blk_drew ?_ | refine blk_alloc ?_ _)); refine blk_far ?_ NB250_259.out _; (with_reducible repeat (first | refine blk_drewN ?_ _ | refine blk_drew ?_ | refine blk_alloc ?_ _)); refine blk_far ?_ NB250_259.out _; (with_reducible repeat (first | refine blk_drewN ?_ _ | refine blk_drew ?_ | refine blk_alloc ?_ _)); refine blk_far ?_ NB250_259.out _; (with_reducible repeat (first | refine blk_drewN ?_ _ | refine blk_drew ?_ | refine blk_alloc ?_ _)); exact BK250.out⟩, ⟨by (with_reducible repeat (first | refine blk_drewN ?_ _ | refine blk_drew ?_ | refine blk_alloc ?_ _)); refine blk_put (cs := #[.int .i64 t252, .int .i64 t253, .string t254, .int .i64 0]) ?_ 3 _ rfl; (with_reducible repeat (first | refine blk_drewN ?_ _ | refine blk_drew ?_ | refine blk_alloc ?_ _)); refine blk_put (cs := #[.int .i64 t252, .int .i64 t253, .string (⟨#[]⟩ : ByteArray), .int .i64 0]) ?_ 2 _ rfl; (with_reducible repeat (first | refine blk_drewN ?_ _ | refine blk_drew ?_ | refine blk_alloc ?_ _)); refine blk_put (cs := #[.int .i64 t252, .int .i64 0, .string (⟨#[]⟩ : ByteArray), .int .i64 0]) ?_ 1 _ rfl; (with_reducible repeat (first | refine blk_drewN ?_ _ | refine blk_drew ?_ | refine blk_alloc ?_ _)); refine blk_put (cs := #[.int .i64 0, .int .i64 0, .string (⟨#[]⟩ : ByteArray), .int .i64 0]) ?_ 0 _ rfl; (with_reducible repeat (first | refine blk_drewN ?_ _ | refine blk_drew ?_ | refine blk_alloc ?_ _)); exact BK259.out⟩, ⟨by repeat (first | (with_reducible first | exact HB.out | apply below_alloc | apply pw_below_drewN | apply below_drew1 | refine below_set ?_ GE249.out | refine below_set ?_ GE250.out | refine below_set ?_ GE259.out) | exact HB.out)⟩⟩
                                  · rw [if_neg c41] at H
                                    have c41b0 : decide ((wrap64 ((ji25) - x12_1)) < t256) = false := decide_eq_false c41
                                    clear c41
                                    by_cases c42 : t256 < (wrap64 ((ji25) - x12_1))
                                    · rw [if_pos c42] at H
                                      have c42b0 : decide (t256 < (wrap64 ((ji25) - x12_1))) = true := decide_eq_true c42
                                      clear c42
                                      have H' := Aside0.mk H
                                      clear H
                                      have hnb43 := NB259_249.out
                                      have hnc43 := NB249_259.out
                                      have hnb44 := NB259_250.out
                                      have hnc44 := NB250_259.out
                                      have hcz45_0 : w34.cell? ⟨gb259, 0, none⟩ = some (.int .i64 0) := (blk_cell BK259.out 0).trans rfl
                                      have hcz45_1 : w34.cell? ⟨gb259, 1, none⟩ = some (.int .i64 0) := (blk_cell BK259.out 1).trans rfl
                                      have hcz45_2 : w34.cell? ⟨gb259, 2, none⟩ = some (.string (⟨#[]⟩ : ByteArray)) := (blk_cell BK259.out 2).trans rfl
                                      have hcz45_3 : w34.cell? ⟨gb259, 3, none⟩ = some (.int .i64 0) := (blk_cell BK259.out 3).trans rfl
                                      have hfz45_0 := blk_frozen BK259.out 0
                                      have hfz45_1 := blk_frozen BK259.out 1
                                      have hfz45_2 := blk_frozen BK259.out 2
                                      have hfz45_3 := blk_frozen BK259.out 3
                                      go_wp2
                                      go_meet
                                      case rel => exact ⟨_, ((t252 != 4)), (by first | rfl | (simp; done) | (simp [*]; done)), H', ⟨by have := HK1.out; have := HJ12.out; have := HJ18.out; have := HJ20.out; first | omega | exact Nat.le_refl _⟩, ⟨by (with_reducible repeat (first | refine blk_drewN ?_ _ | refine blk_drew ?_ | refine blk_alloc ?_ _)); refine blk_far ?_ NB249_259.out _; (with_reducible repeat (first | refine blk_drewN ?_ _ | refine blk_drew ?_ | refine blk_alloc ?_ _)); refine blk_far ?_ NB249_259.out _; (with_reducible repeat (first | refine blk_drewN ?_ _ | refine blk_drew ?_ | refine blk_alloc ?_ _)); refine blk_far ?_ NB249_259.out _; (with_reducible repeat (first | refine blk_drewN ?_ _ | refine blk_drew ?_ | refine blk_alloc ?_ _)); refine blk_far ?_ NB249_259.out _; (with_reducible repeat (first | refine blk_drewN ?_ _ | refine blk_drew ?_ | refine blk_alloc ?_ _)); exact BK249.out⟩, ⟨by (with_reducible repeat (first | refine blk_drewN ?_ _ | refine blk_drew ?_ | refine blk_alloc ?_ _)); refine blk_far ?_ NB250_259.out _; (with_reducible repeat (first | refine blk_drewN ?_ _ | refine blk_drew ?_ | refine blk_alloc ?_ _)); refine blk_far ?_ NB250_259.out _; (with_reducible repeat (first | refine blk_drewN ?_ _ | refine blk_drew ?_ | refine blk_alloc ?_ _)); refine blk_far ?_ NB250_259.out _; (with_reducible repeat (first | refine blk_drewN ?_ _ | refine blk_drew ?_ | refine blk_alloc ?_ _)); refine blk_far ?_ NB250_259.out _; (with_reducible repeat (first | refine blk_drewN ?_ _ | refine blk_drew ?_ | refine blk_alloc ?_ _)); exact BK250.out⟩, ⟨by (with_reducible repeat (first | refine blk_drewN ?_ _ | refine blk_drew ?_ | refine blk_alloc ?_ _)); refine blk_put (cs := #[.int .i64 t252, .int .i64 t253, .string t254, .int .i64 0]) ?_ 3 _ rfl; (with_reducible repeat (first | refine blk_drewN ?_ _ | refine blk_drew ?_ | refine blk_alloc ?_ _)); refine blk_put (cs := #[.int .i64 t252, .int .i64 t253, .string (⟨#[]⟩ : ByteArray), .int .i64 0]) ?_ 2 _ rfl; (with_reducible repeat (first | refine blk_drewN ?_ _ | refine blk_drew ?_ | refine blk_alloc ?_ _)); refine blk_put (cs := #[.int .i64 t252, .int .i64 0, .string (⟨#[]⟩ : ByteArray), .int .i64 0]) ?_ 1 _ rfl; (with_reducible repeat (first | refine blk_drewN ?_ _ | refine blk_drew ?_ | refine blk_alloc ?_ _)); refine blk_put (cs := #[.int .i64 0, .int .i64 0, .string (⟨#[]⟩ : ByteArray), .int .i64 0]) ?_ 0 _ rfl; (with_reducible repeat (first | refine blk_drewN ?_ _ | refine blk_drew ?_ | refine blk_alloc ?_ _)); exact BK259.out⟩, ⟨by repeat (first | (with_reducible first | exact HB.out | apply below_alloc | apply pw_below_drewN | apply below_drew1 | refine below_set ?_ GE249.out | refine below_set ?_ GE250.out | refine below_set ?_ GE259.out) | exact HB.out)⟩⟩
                                    · rw [if_neg c42] at H
                                      have c42b0 : decide (t256 < (wrap64 ((ji25) - x12_1))) = false := decide_eq_false c42
                                      clear c42
                                      have H' := Aside0.mk H
                                      clear H
                                      go_wp2
                                      go_meet
                                      case rel => exact ⟨_, (false), (by first | rfl | (simp; done) | (simp [*]; done)), H', ⟨by have := HK1.out; have := HJ12.out; have := HJ18.out; have := HJ20.out; first | omega | exact Nat.le_refl _⟩, ⟨by (with_reducible repeat (first | refine blk_drewN ?_ _ | refine blk_drew ?_ | refine blk_alloc ?_ _)); refine blk_far ?_ NB249_259.out _; (with_reducible repeat (first | refine blk_drewN ?_ _ | refine blk_drew ?_ | refine blk_alloc ?_ _)); refine blk_far ?_ NB249_259.out _; (with_reducible repeat (first | refine blk_drewN ?_ _ | refine blk_drew ?_ | refine blk_alloc ?_ _)); refine blk_far ?_ NB249_259.out _; (with_reducible repeat (first | refine blk_drewN ?_ _ | refine blk_drew ?_ | refine blk_alloc ?_ _)); refine blk_far ?_ NB249_259.out _; (with_reducible repeat (first | refine blk_drewN ?_ _ | refine blk_drew ?_ | refine blk_alloc ?_ _)); exact BK249.out⟩, ⟨by (with_reducible repeat (first | refine blk_drewN ?_ _ | refine blk_drew ?_ | refine blk_alloc ?_ _)); refine blk_far ?_ NB250_259.out _; (with_reducible repeat (first | refine blk_drewN ?_ _ | refine blk_drew ?_ | refine blk_alloc ?_ _)); refine blk_far ?_ NB250_259.out _; (with_reducible repeat (first | refine blk_drewN ?_ _ | refine blk_drew ?_ | refine blk_alloc ?_ _)); refine blk_far ?_ NB250_259.out _; (with_reducible repeat (first | refine blk_drewN ?_ _ | refine blk_drew ?_ | refine blk_alloc ?_ _)); refine blk_far ?_ NB250_259.out _; (with_reducible repeat (first | refine blk_drewN ?_ _ | refine blk_drew ?_ | refine blk_alloc ?_ _)); exact BK250.out⟩, ⟨by (with_reducible repeat (first | refine blk_drewN ?_ _ | refine blk_drew ?_ | refine blk_alloc ?_ _)); refine blk_put (cs := #[.int .i64 t252, .int .i64 t253, .string t254, .int .i64 0]) ?_ 3 _ rfl; (with_reducible repeat (first | refine blk_drewN ?_ _ | refine blk_drew ?_ | refine blk_alloc ?_ _)); refine blk_put (cs := #[.int .i64 t252, .int .i64 t253, .string (⟨#[]⟩ : ByteArray), .int .i64 0]) ?_ 2 _ rfl; (with_reducible repeat (first | refine blk_drewN ?_ _ | refine blk_drew ?_ | refine blk_alloc ?_ _)); refine blk_put (cs := #[.int .i64 t252, .int .i64 0, .string (⟨#[]⟩ : ByteArray), .int .i64 0]) ?_ 1 _ rfl; (with_reducible repeat (first | refine blk_drewN ?_ _ | refine blk_drew ?_ | refine blk_alloc ?_ _)); refine blk_put (cs := #[.int .i64 0, .int .i64 0, .string (⟨#[]⟩ : ByteArray), .int .i64 0]) ?_ 0 _ rfl; (with_reducible repeat (first | refine blk_drewN ?_ _ | refine blk_drew ?_ | refine blk_alloc ?_ _)); exact BK259.out⟩, ⟨by repeat (first | (with_reducible first | exact HB.out | apply below_alloc | apply pw_below_drewN | apply below_drew1 | refine below_set ?_ GE249.out | refine below_set ?_ GE250.out | refine below_set ?_ GE259.out) | exact HB.out)⟩⟩
                              · rw [if_neg c39] at H
                                have c39b0 : (t258 == 0) = false := beq_eq_false_iff_ne.mpr c39
                                have c39b1 : (t258 != 0) = true := bne_iff_ne.mpr c39
                                (first | rw [c39b0] | (simp only [i64_w, i32_w]; rw [c39b0]) | skip)
                                have H' := Aside0.mk H
                                clear H
                                go_wp2
                                go_meet
                                case rel => exact ⟨_, (false), (by first | rfl | (simp; done) | (simp [*]; done)), H', ⟨by have := HK1.out; have := HJ12.out; have := HJ18.out; have := HJ20.out; first | omega | exact Nat.le_refl _⟩, ⟨by (with_reducible repeat (first | refine blk_drewN ?_ _ | refine blk_drew ?_ | refine blk_alloc ?_ _)); refine blk_far ?_ NB249_259.out _; (with_reducible repeat (first | refine blk_drewN ?_ _ | refine blk_drew ?_ | refine blk_alloc ?_ _)); refine blk_far ?_ NB249_259.out _; (with_reducible repeat (first | refine blk_drewN ?_ _ | refine blk_drew ?_ | refine blk_alloc ?_ _)); refine blk_far ?_ NB249_259.out _; (with_reducible repeat (first | refine blk_drewN ?_ _ | refine blk_drew ?_ | refine blk_alloc ?_ _)); refine blk_far ?_ NB249_259.out _; (with_reducible repeat (first | refine blk_drewN ?_ _ | refine blk_drew ?_ | refine blk_alloc ?_ _)); exact BK249.out⟩, ⟨by (with_reducible repeat (first | refine blk_drewN ?_ _ | refine blk_drew ?_ | refine blk_alloc ?_ _)); refine blk_far ?_ NB250_259.out _; (with_reducible repeat (first | refine blk_drewN ?_ _ | refine blk_drew ?_ | refine blk_alloc ?_ _)); refine blk_far ?_ NB250_259.out _; (with_reducible repeat (first | refine blk_drewN ?_ _ | refine blk_drew ?_ | refine blk_alloc ?_ _)); refine blk_far ?_ NB250_259.out _; (with_reducible repeat (first | refine blk_drewN ?_ _ | refine blk_drew ?_ | refine blk_alloc ?_ _)); refine blk_far ?_ NB250_259.out _; (with_reducible repeat (first | refine blk_drewN ?_ _ | refine blk_drew ?_ | refine blk_alloc ?_ _)); exact BK250.out⟩, ⟨by (with_reducible repeat (first | refine blk_drewN ?_ _ | refine blk_drew ?_ | refine blk_alloc ?_ _)); refine blk_put (cs := #[.int .i64 t252, .int .i64 t253, .string t254, .int .i64 0]) ?_ 3 _ rfl; (with_reducible repeat (first | refine blk_drewN ?_ _ | refine blk_drew ?_ | refine blk_alloc ?_ _)); refine blk_put (cs := #[.int .i64 t252, .int .i64 t253, .string (⟨#[]⟩ : ByteArray), .int .i64 0]) ?_ 2 _ rfl; (with_reducible repeat (first | refine blk_drewN ?_ _ | refine blk_drew ?_ | refine blk_alloc ?_ _)); refine blk_put (cs := #[.int .i64 t252, .int .i64 0, .string (⟨#[]⟩ : ByteArray), .int .i64 0]) ?_ 1 _ rfl; (with_reducible repeat (first | refine blk_drewN ?_ _ | refine blk_drew ?_ | refine blk_alloc ?_ _)); refine blk_put (cs := #[.int .i64 0, .int .i64 0, .string (⟨#[]⟩ : ByteArray), .int .i64 0]) ?_ 0 _ rfl; (with_reducible repeat (first | refine blk_drewN ?_ _ | refine blk_drew ?_ | refine blk_alloc ?_ _)); exact BK259.out⟩, ⟨by repeat (first | (with_reducible first | exact HB.out | apply below_alloc | apply pw_below_drewN | apply below_drew1 | refine below_set ?_ GE249.out | refine below_set ?_ GE250.out | refine below_set ?_ GE259.out) | exact HB.out)⟩⟩
                            case rest =>
                              clear HC30
                              try clear c1
                              try clear c2
                              try clear p2
                              try clear q2
                              try clear hx2
                              try clear c3
                              try clear c4
                              try clear p6
                              try clear c7
                              try clear c9
                              try clear c11
                              try clear c14
                              try clear c14b0
                              try clear c15
                              try clear c15b0
                              try clear c15b1
                              try clear c16
                              try clear c18
                              try clear c20
                              try clear c20b0
                              try clear c22
                              try clear c23
                              try clear c23b0
                              try clear c24
                              try clear c24b0
                              try clear p25
                              try clear q25
                              try clear hx25
                              try clear c26
                              try clear c26b0
                              try clear c26b1
                              try clear c27
                              try clear c27b0
                              try clear c27b1
                              try clear c28
                              try clear c28b0
                              try clear c28b1
                              try clear c39
                              try clear c39b0
                              try clear c39b1
                              try clear c40
                              try clear c40b0
                              try clear c41
                              try clear c41b0
                              try clear c42
                              try clear c42b0
                              try clear c43
                              try clear c44
                              try clear hcz11_0
                              try clear hcz11_1
                              try clear hcz11_2
                              try clear hcz11_3
                              try clear hcz17_0
                              try clear hcz17_1
                              try clear hcz17_2
                              try clear hcz17_3
                              try clear hcz45_0
                              try clear hcz45_1
                              try clear hcz45_2
                              try clear hcz45_3
                              try clear hfz11_0
                              try clear hfz11_1
                              try clear hfz11_2
                              try clear hfz11_3
                              try clear hfz17_0
                              try clear hfz17_1
                              try clear hfz17_2
                              try clear hfz17_3
                              try clear hfz45_0
                              try clear hfz45_1
                              try clear hfz45_2
                              try clear hfz45_3
                              try clear hx251_0
                              try clear p2
                              try clear p251
                              try clear p6
                              try clear q2
                              try clear q251
                              obtain ⟨kq, x105_29, rfl, HA, HJ29, BK249, BK250, BK259, HB⟩ := hcut
                              cases kq with
                              | zero => exact absurd HA.out (by simp [lockagelaw08_ChunkSplit.j4])
                              | succ kj29 =>
                                have H := HA.out
                                clear HA
                                simp only [lockagelaw08_ChunkSplit.j4] at H
                                by_cases c46 : x105_29 = true
                                · subst c46
                                  have H1 : (none) = some r := by rw [if_pos rfl] at H; exact H
                                  clear H
                                  have H := H1
                                  clear H1
                                  exact absurd H (by simp)
                                · replace c46 := Bool.eq_false_iff.mpr c46
                                  subst c46
                                  have H1 : (if x13_1.size + t257.size ≤ 9223372036854775807 then (if x15_1 > 1000 then (none) else (lockagelaw08_ChunkSplit.l0 kj29 l1 true t241 t246 t247 t248 (wrap64 (x12_1 + t256)) (x13_1 ++ t257) t258 (wrap64 (x15_1 + 1)) t242 t243 t244 t245 t252 t253 t254 t255)) else (none)) = some r := by rw [if_neg (show ¬ (false = true) by decide)] at H; exact H
                                  clear H
                                  have H := H1
                                  clear H1
                                  by_cases c47 : x13_1.size + t257.size ≤ 9223372036854775807
                                  · rw [if_pos c47] at H
                                    have c47b0 := eq_true c47
                                    have c47b1 : decide (x13_1.size + t257.size ≤ 9223372036854775807) = true := decide_eq_true c47
                                    try have c47b2 : (9223372036854775807 < x13_1.size + t257.size) = False := eq_false (Nat.not_lt.2 c47)
                                    by_cases c48 : x15_1 > 1000
                                    · rw [if_pos c48] at H
                                      exact absurd H (by simp)
                                    · rw [if_neg c48] at H
                                      have c48b0 : decide (1000 < x15_1) = false := decide_eq_false c48
                                      clear c48
                                      have H' := Aside0.mk H
                                      clear H
                                      have hnb49 := NB259_249.out
                                      have hnc49 := NB249_259.out
                                      have hnb50 := NB259_250.out
                                      have hnc50 := NB250_259.out
                                      have hcz51_0 : wc.cell? ⟨gb259, 0, none⟩ = some (.int .i64 t252) := (blk_cell BK259.out 0).trans rfl
                                      have hcz51_1 : wc.cell? ⟨gb259, 1, none⟩ = some (.int .i64 t253) := (blk_cell BK259.out 1).trans rfl
                                      have hcz51_2 : wc.cell? ⟨gb259, 2, none⟩ = some (.string t254) := (blk_cell BK259.out 2).trans rfl
                                      have hcz51_3 : wc.cell? ⟨gb259, 3, none⟩ = some (.int .i64 t255) := (blk_cell BK259.out 3).trans rfl
                                      have hfz51_0 := blk_frozen BK259.out 0
                                      have hfz51_1 := blk_frozen BK259.out 1
                                      have hfz51_2 := blk_frozen BK259.out 2
                                      have hfz51_3 := blk_frozen BK259.out 3
                                      have hnb52 := NB250_249.out
                                      have hnc52 := NB249_250.out
                                      have hcz53_0 : wc.cell? ⟨gb250, 0, none⟩ = some (.int .i64 x251000_1) := (blk_cell BK250.out 0).trans rfl
                                      have hcz53_1 : wc.cell? ⟨gb250, 1, none⟩ = some (.int .i64 x251001_1) := (blk_cell BK250.out 1).trans rfl
                                      have hcz53_2 : wc.cell? ⟨gb250, 2, none⟩ = some (.string x251002_1) := (blk_cell BK250.out 2).trans rfl
                                      have hcz53_3 : wc.cell? ⟨gb250, 3, none⟩ = some (.int .i64 x251003_1) := (blk_cell BK250.out 3).trans rfl
                                      have hfz53_0 := blk_frozen BK250.out 0
                                      have hfz53_1 := blk_frozen BK250.out 1
                                      have hfz53_2 := blk_frozen BK250.out 2
                                      have hfz53_3 := blk_frozen BK250.out 3
                                      go_wp2
                                      go_roundg kj29
                                      case measure => have := HK1.out; have := HJ12.out; have := HJ18.out; have := HJ20.out; have := HJ29.out; omega
                                      case rel => exact ⟨(wrap64 (x12_1 + t256)), (x13_1 ++ t257), (t258), (wrap64 (x15_1 + 1)), (t252), (t253), (t254), (t255), (by first | rfl | (simp; done) | (simp [*]; done)), (by first | rfl | (simp; done) | (simp [*]; done)), (by first | rfl | (simp; done) | (simp [*]; done)), (by first | rfl | (simp; done) | (simp [*]; done)), H', ⟨by have := HK1.out; have := HJ12.out; have := HJ18.out; have := HJ20.out; have := HJ29.out; omega⟩, ⟨by (with_reducible repeat (first | refine blk_drewN ?_ _ | refine blk_drew ?_ | refine blk_alloc ?_ _)); refine blk_far ?_ NB249_250.out _; (with_reducible repeat (first | refine blk_drewN ?_ _ | refine blk_drew ?_ | refine blk_alloc ?_ _)); refine blk_far ?_ NB249_250.out _; (with_reducible repeat (first | refine blk_drewN ?_ _ | refine blk_drew ?_ | refine blk_alloc ?_ _)); refine blk_far ?_ NB249_250.out _; (with_reducible repeat (first | refine blk_drewN ?_ _ | refine blk_drew ?_ | refine blk_alloc ?_ _)); refine blk_far ?_ NB249_250.out _; (with_reducible repeat (first | refine blk_drewN ?_ _ | refine blk_drew ?_ | refine blk_alloc ?_ _)); exact BK249.out⟩, ⟨by (with_reducible repeat (first | refine blk_drewN ?_ _ | refine blk_drew ?_ | refine blk_alloc ?_ _)); refine blk_put (cs := #[.int .i64 t252, .int .i64 t253, .string t254, .int .i64 x251003_1]) ?_ 3 _ rfl; (with_reducible repeat (first | refine blk_drewN ?_ _ | refine blk_drew ?_ | refine blk_alloc ?_ _)); refine blk_put (cs := #[.int .i64 t252, .int .i64 t253, .string x251002_1, .int .i64 x251003_1]) ?_ 2 _ rfl; (with_reducible repeat (first | refine blk_drewN ?_ _ | refine blk_drew ?_ | refine blk_alloc ?_ _)); refine blk_put (cs := #[.int .i64 t252, .int .i64 x251001_1, .string x251002_1, .int .i64 x251003_1]) ?_ 1 _ rfl; (with_reducible repeat (first | refine blk_drewN ?_ _ | refine blk_drew ?_ | refine blk_alloc ?_ _)); refine blk_put (cs := #[.int .i64 x251000_1, .int .i64 x251001_1, .string x251002_1, .int .i64 x251003_1]) ?_ 0 _ rfl; (with_reducible repeat (first | refine blk_drewN ?_ _ | refine blk_drew ?_ | refine blk_alloc ?_ _)); exact BK250.out⟩, ⟨by repeat (first | (with_reducible first | exact HB.out | apply below_alloc | apply pw_below_drewN | apply below_drew1 | refine below_set ?_ GE249.out | refine below_set ?_ GE250.out | refine below_set ?_ GE259.out) | exact HB.out)⟩⟩
                                  · rw [if_neg c47] at H
                                    exact absurd H (by simp)
                          · rw [if_neg c28] at H
                            exact absurd H (by simp)
                        · rw [if_neg c27] at H
                          exact absurd H (by simp)
                      · rw [if_neg c26] at H
                        exact absurd H (by simp)
            · replace c18 := Bool.eq_false_iff.mpr c18
              subst c18
              have H1 : (if true = true then (if t248 = x14_1 then (if t248 = 0 then (if (t242 == x251000_1 && (t243 == x251001_1 && (t244.toList == x251002_1.toList && (t245 == x251003_1)))) = true then (if t246 = x12_1 then (some (t247.toList == x13_1.toList)) else (none)) else (none)) else (some true)) else (none)) else (none)) = some r := by rw [if_neg (show ¬ (false = true) by decide)] at H; exact H
              clear H
              have H := H1
              clear H1
              replace H : (if t248 = x14_1 then (if t248 = 0 then (if (t242 == x251000_1 && (t243 == x251001_1 && (t244.toList == x251002_1.toList && (t245 == x251003_1)))) = true then (if t246 = x12_1 then (some (t247.toList == x13_1.toList)) else (none)) else (none)) else (some true)) else (none)) = some r := by rw [if_pos rfl] at H; exact H
              by_cases c54 : t248 = x14_1
              · rw [if_pos c54] at H
                have c54b0 : (t248 == x14_1) = true := beq_iff_eq.mpr c54
                have c54b1 : (t248 != x14_1) = false := bne_eq_false_iff_eq.mpr c54
                clear c54
                by_cases c55 : t248 = 0
                · rw [if_pos c55] at H
                  have c55b0 : (t248 == 0) = true := beq_iff_eq.mpr c55
                  have c55b1 : (t248 != 0) = false := bne_eq_false_iff_eq.mpr c55
                  clear c55
                  by_cases c56 : (t242 == x251000_1 && (t243 == x251001_1 && (t244.toList == x251002_1.toList && (t245 == x251003_1)))) = true
                  · rw [if_pos c56] at H
                    have c56b0 : (t242 == x251000_1 && (t243 == x251001_1 && (t244.toList == x251002_1.toList && (t245 == x251003_1)))) = true := c56
                    (try (have c56b1 : decide (t242 = x251000_1 && (t243 == x251001_1 && (t244.toList == x251002_1.toList && (t245 == x251003_1)))) = true := by simpa using c56))
                    (try (have c56b2 : (t242 == x251000_1 && (t243 == x251001_1 && (t244.toList == x251002_1.toList && (t245 == x251003_1)))) = true := by simpa using c56))
                    clear c56
                    by_cases c57 : t246 = x12_1
                    · rw [if_pos c57] at H
                      have c57b0 : (t246 == x12_1) = true := beq_iff_eq.mpr c57
                      have c57b1 : (t246 != x12_1) = false := bne_eq_false_iff_eq.mpr c57
                      clear c57
                      obtain rfl := Option.some.inj H
                      have hnb58 := NB249_250.out
                      have hnc58 := NB250_249.out
                      have hcz59_0 : wc.cell? ⟨gb249, 0, none⟩ = some (.int .i64 t242) := (blk_cell BK249.out 0).trans rfl
                      have hcz59_1 : wc.cell? ⟨gb249, 1, none⟩ = some (.int .i64 t243) := (blk_cell BK249.out 1).trans rfl
                      have hcz59_2 : wc.cell? ⟨gb249, 2, none⟩ = some (.string t244) := (blk_cell BK249.out 2).trans rfl
                      have hcz59_3 : wc.cell? ⟨gb249, 3, none⟩ = some (.int .i64 t245) := (blk_cell BK249.out 3).trans rfl
                      have hfz59_0 := blk_frozen BK249.out 0
                      have hfz59_1 := blk_frozen BK249.out 1
                      have hfz59_2 := blk_frozen BK249.out 2
                      have hfz59_3 := blk_frozen BK249.out 3
                      have hcz60_0 : wc.cell? ⟨gb250, 0, none⟩ = some (.int .i64 x251000_1) := (blk_cell BK250.out 0).trans rfl
                      have hcz60_1 : wc.cell? ⟨gb250, 1, none⟩ = some (.int .i64 x251001_1) := (blk_cell BK250.out 1).trans rfl
                      have hcz60_2 : wc.cell? ⟨gb250, 2, none⟩ = some (.string x251002_1) := (blk_cell BK250.out 2).trans rfl
                      have hcz60_3 : wc.cell? ⟨gb250, 3, none⟩ = some (.int .i64 x251003_1) := (blk_cell BK250.out 3).trans rfl
                      have hfz60_0 := blk_frozen BK250.out 0
                      have hfz60_1 := blk_frozen BK250.out 1
                      have hfz60_2 := blk_frozen BK250.out 2
                      have hfz60_3 := blk_frozen BK250.out 3
                      go_wp2
                      go_ret
                      exact ⟨by first | rfl | (simp [errW_none, errW_some] <;> rfl) | (simp [*, errW_none, errW_some] <;> rfl), by repeat (first | (with_reducible first | exact HB.out | apply below_alloc | apply pw_below_drewN | apply below_drew1 | refine below_set ?_ GE249.out | refine below_set ?_ GE250.out) | exact HB.out)⟩
                    · rw [if_neg c57] at H
                      exact absurd H (by simp)
                  · rw [if_neg c56] at H
                    exact absurd H (by simp)
                · rw [if_neg c55] at H
                  have c55b0 : (t248 == 0) = false := beq_eq_false_iff_ne.mpr c55
                  have c55b1 : (t248 != 0) = true := bne_iff_ne.mpr c55
                  obtain rfl := Option.some.inj H
                  go_wp2
                  go_ret
                  exact ⟨by first | rfl | (simp [errW_none, errW_some] <;> rfl) | (simp [*, errW_none, errW_some] <;> rfl), by repeat (first | (with_reducible first | exact HB.out | apply below_alloc | apply pw_below_drewN | apply below_drew1 | refine below_set ?_ GE249.out | refine below_set ?_ GE250.out) | exact HB.out)⟩
              · rw [if_neg c54] at H
                exact absurd H (by simp)
  · replace c4 := Bool.eq_false_iff.mpr c4
    subst c4
    have H1 : (none) = some r := by rw [if_neg (show ¬ (false = true) by decide)] at H; exact H
    clear H
    have H := H1
    clear H1
    exact absurd H (by simp)

/-- THE ONE PURE STATEMENT of lockagelaw08_ChunkSplit: yours. -/
def lockagelaw08_ChunkSplit.Pure : Prop := ∀ (l0 : List Int) (l1 : List Int), l0.length ≤ maxLen → l0.length * 1 ≤ 140737488351232 → (∀ x ∈ l0, (Lit.int .u8 x).wf = true) → l1.length ≤ maxLen → l1.length * 1 ≤ 140737488351232 → (∀ x ∈ l1, (Lit.int .u8 x).wf = true) → ∃ k, lockagelaw08_ChunkSplit.f k l0 l1 = some true

end Go.Proofs.YthemlbefkdmegaaDoor.P
