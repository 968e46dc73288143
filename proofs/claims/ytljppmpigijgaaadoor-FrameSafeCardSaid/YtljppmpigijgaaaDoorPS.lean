/- The law FrameSafe in plain Lean: what the printed function comes to. -/
import Derived.Test.YtljppmpigijgaaaDoorPK
import Derived.Test.YtljppmpigijgaaaDoorPG
import Derived.Test.YtljppmpigijgaaaDoorPx5
import Derived.Test.YtljppmpigijgaaaDoorPx4
import Derived.Test.YtljppmpigijgaaaDoorPx9
import Derived.Test.YtljppmpigijgaaaDoorPx7
namespace Go.Proofs.YtljppmpigijgaaaDoor.P
open Go.RowKit Go.Proofs.YtljppmpigijgaaaDoorW.PrintWords Go.Proofs.YtljppmpigijgaaaDoorW.PrintLast Go.Proofs.YtljppmpigijgaaaDoorW.PrintMore
set_option maxRecDepth 100000 in
theorem awake_at (k : Nat) (hk : 300 ≤ k) : lockagelaw07_awake.f k = some true := at_rounds lockagelaw07_awake.mono hk (by kernel_rfl)
theorem parse_vals : ∀ v ∈ mVals, ∃ n e : Int, (∀ k, 60 ≤ k → num_Parse.f k v 10 = some (n, e)) ∧ 0 ≤ n := by
  have h : (mVals.all fun v => match num_Parse.f 60 v 10 with | some (n, _) => decide (0 ≤ n) | none => false) = true := by kernel_rfl
  intro v hv
  have := List.all_eq_true.1 h v hv
  generalize hg : num_Parse.f 60 v 10 = g at this
  cases g with
  | none => simp at this
  | some p => exact ⟨p.1, p.2, fun k hk => at_rounds (num_Parse.mono v 10) hk hg, by simpa using this⟩
theorem getS_congr (l : List S32) {a b : ByteArray} (h : Sp.lower a.data.toList = Sp.lower b.data.toList) : getS l a = getS l b := by unfold getS; rw [h]
theorem getS_mem {l : List S32} (hf : MFs l) (a : ByteArray) : ∀ v ∈ getS l a, v ∈ mVals := by
  intro v hv
  unfold getS at hv
  obtain ⟨x, hx, rfl⟩ := List.mem_map.1 hv
  exact (hf x (List.mem_filter.1 hx).1).2
/-- What fields tell: of Transfer-Encoding's texts, Content-Length's, the minor number, and the first length's number. -/
def toldS (T C : List ByteArray) (mi n e : Int) : Int × Int × Int :=
  match T, C with
  | [], [] => (0, 0, 0)
  | [], [_] => if e = 1 then (0, 0, 22) else if e = 0 then (if n > 4000 then (0, 0, 2) else (2, n, 0)) else (0, 0, 2)
  | [], _ :: _ :: _ => (0, 0, 22)
  | [t], [] => if mi = 0 then (0, 0, 22) else if Sp.lower t.data.toList = [99, 104, 117, 110, 107, 101, 100] then (3, 0, 0) else (0, 0, 22)
  | [_], _ :: _ => (0, 0, 22)
  | _ :: _ :: _, _ => (0, 0, 22)
theorem told_f (k : Nat) (a b : ByteArray) (c : Int) (d : ByteArray) (mi : Int) (fs : List S32) (T C : List ByteArray) (n e : Int) (hk : 100 ≤ k)
    (hT : field_Get.f k fs (⟨#[84, 114, 97, 110, 115, 102, 101, 114, 45, 69, 110, 99, 111, 100, 105, 110, 103]⟩ : ByteArray) = some T)
    (hC : field_Get.f k fs (⟨#[67, 111, 110, 116, 101, 110, 116, 45, 76, 101, 110, 103, 116, 104]⟩ : ByteArray) = some C)
    (hs : ∀ t ∈ T, t.size ≤ 9223372036854775806) (hP : ∀ c0 r, C = c0 :: r → ∀ k, 60 ≤ k → num_Parse.f k c0 10 = some (n, e)) :
    frame_told.f k a b c d mi fs = some (toldS T C mi n e) := by
  unfold frame_told.f
  rw [hT, hC]
  simp only [Option.bind_some]
  obtain ⟨k, rfl⟩ : ∃ j, k = j + 2 := ⟨k - 2, by omega⟩
  match T, C with
  | [], [] => rfl
  | [], [c0] =>
    have hp := hP c0 [] rfl (k + 1) (by omega)
    simp only [List.length_cons, List.length_nil, Nat.zero_add]
    rw [if_pos (by rfl)]
    unfold frame_told.j0
    dsimp only
    rw [if_neg (by decide), if_pos (by rfl)]
    unfold frame_sized.f
    rw [if_pos (by simp)]
    have hr : rdOf ByteArray.empty [c0] 0 = c0 := rfl
    rw [hr, hp]
    simp only [Option.bind_some, List.length_cons, List.length_nil, Nat.zero_add]
    rw [if_neg (by decide)]
    unfold frame_sized.j0
    dsimp only
    show _ = some (if e = 1 then ((0, 0, 22) : Int × Int × Int) else if e = 0 then (if n > 4000 then (0, 0, 2) else (2, n, 0)) else (0, 0, 2))
    by_cases h1 : e = 1
    · rw [if_pos (by simpa using h1), if_pos h1]
      rfl
    · rw [if_neg (by simpa using h1), if_neg h1]
      by_cases h0 : e = 0
      · rw [if_pos h0, if_pos h0]
        by_cases h4 : n > 4000
        · rw [if_pos h4, if_pos h4]
          rfl
        · rw [if_neg h4, if_neg h4]
          rfl
      · rw [if_neg h0, if_neg h0]
        rfl
  | [], c0 :: c1 :: r =>
    have hp := hP c0 _ rfl (k + 1) (by omega)
    have h2 : ((c0 :: c1 :: r).length : Int) > 1 := by simp only [List.length_cons]; omega
    rw [if_pos (by rfl)]
    have e0 : (((c0 :: c1 :: r).length : Int) == 0) = false := by simp only [List.length_cons, beq_eq_false_iff_ne]; omega
    rw [e0]
    unfold frame_told.j0
    dsimp only
    rw [if_neg (by decide), if_pos (by rfl)]
    unfold frame_sized.f
    have hr : rdOf ByteArray.empty (c0 :: c1 :: r) 0 = c0 := rfl
    rw [if_pos (by omega), hr, hp]
    simp only [Option.bind_some]
    rw [if_pos h2]
    unfold frame_sized.j0
    dsimp only
    rw [if_pos (decide_eq_true h2)]
    rfl
  | [t], [] =>
    have ht := hs t (List.mem_cons_self)
    simp only [List.length_cons, List.length_nil, Nat.zero_add]
    rw [if_neg (by decide)]
    unfold frame_told.j0
    dsimp only
    rw [if_neg (by decide), if_neg (by simp), if_neg (by simp), if_neg (by simp)]
    show _ = some (if mi = 0 then ((0, 0, 22) : Int × Int × Int) else if Sp.lower t.data.toList = [99, 104, 117, 110, 107, 101, 100] then (3, 0, 0) else (0, 0, 22))
    by_cases h0 : mi = 0
    · rw [if_pos h0, if_pos h0]
    · rw [if_neg h0, if_neg h0, if_pos (by simp)]
      have hr : rdOf ByteArray.empty [t] 0 = t := rfl
      rw [hr, lower_f ht]
      simp only [Option.bind_some]
      rw [toList_data]
      by_cases h1 : Sp.lower t.data.toList = [99, 104, 117, 110, 107, 101, 100]
      · rw [if_pos h1, if_pos h1]
      · rw [if_neg h1, if_neg h1]
  | [t], c0 :: r =>
    rw [if_neg (by simp)]
    unfold frame_told.j0
    dsimp only
    rw [if_neg (by decide), if_neg (by simp), if_neg (by simp), if_pos (by simp only [List.length_cons]; omega)]
    rfl
  | t :: t1 :: r, C =>
    rw [if_neg (by simp only [List.length_cons]; omega)]
    unfold frame_told.j0
    dsimp only
    rw [if_neg (by decide), if_neg (by simp only [List.length_cons]; omega), if_pos (by simp only [List.length_cons]; omega)]
    rfl
theorem FrameSafe_pure : lockagelaw07_FrameSafe.Pure := by
  intro l h1 h2 hw
  obtain ⟨m, t, mi, fs, hM, hm, ht, hmi, hlen, hf⟩ := Made_false l (by omega) hw
  have hsm : ∀ x ∈ fs, x.f0.size ≤ 100 := fun x hx => (names_good _ (hf x hx).1).2
  obtain ⟨T, hT⟩ : ∃ T, T = getS fs (⟨#[116, 114, 97, 110, 115, 102, 101, 114, 45, 101, 110, 99, 111, 100, 105, 110, 103]⟩ : ByteArray) := ⟨_, rfl⟩
  obtain ⟨C, hC⟩ : ∃ C, C = getS fs (⟨#[99, 111, 110, 116, 101, 110, 116, 45, 108, 101, 110, 103, 116, 104]⟩ : ByteArray) := ⟨_, rfl⟩
  have eT : getS fs (⟨#[84, 114, 97, 110, 115, 102, 101, 114, 45, 69, 110, 99, 111, 100, 105, 110, 103]⟩ : ByteArray) = T := by rw [hT]; exact getS_congr _ (by decide)
  have eC : getS fs (⟨#[67, 111, 110, 116, 101, 110, 116, 45, 76, 101, 110, 103, 116, 104]⟩ : ByteArray) = C := by rw [hC]; exact getS_congr _ (by decide)
  have gT := field_Get_ev fs (⟨#[84, 114, 97, 110, 115, 102, 101, 114, 45, 69, 110, 99, 111, 100, 105, 110, 103]⟩ : ByteArray) (by omega) (by decide) (fun x hx => by have := hsm x hx; omega) 1000 (by omega)
  have gC := field_Get_ev fs (⟨#[67, 111, 110, 116, 101, 110, 116, 45, 76, 101, 110, 103, 116, 104]⟩ : ByteArray) (by omega) (by decide) (fun x hx => by have := hsm x hx; omega) 1000 (by omega)
  have rT := RefGet_ev 100 (by decide) fs (⟨#[116, 114, 97, 110, 115, 102, 101, 114, 45, 101, 110, 99, 111, 100, 105, 110, 103]⟩ : ByteArray) (by omega) (by decide) hsm 1000 (by omega)
  have rC := RefGet_ev 100 (by decide) fs (⟨#[99, 111, 110, 116, 101, 110, 116, 45, 108, 101, 110, 103, 116, 104]⟩ : ByteArray) (by omega) (by decide) hsm 1000 (by omega)
  rw [eT] at gT
  rw [eC] at gC
  rw [← hT] at rT
  rw [← hC] at rC
  have mT : ∀ v ∈ T, v ∈ mVals := by rw [hT]; exact getS_mem hf _
  have mC : ∀ v ∈ C, v ∈ mVals := by rw [hC]; exact getS_mem hf _
  have lT : T.length ≤ 6 := by rw [hT]; exact Nat.le_trans (getS_length _ _) hlen
  have lC : C.length ≤ 6 := by rw [hC]; exact Nat.le_trans (getS_length _ _) hlen
  obtain ⟨n, e, hP, hn⟩ : ∃ n e : Int, (∀ c0 r, C = c0 :: r → ∀ k, 60 ≤ k → num_Parse.f k c0 10 = some (n, e)) ∧ 0 ≤ n := by
    cases C with
    | nil => exact ⟨0, 0, (fun c0 r h => nomatch h), Int.le_refl 0⟩
    | cons c0 r =>
      obtain ⟨n, e, h1, h2⟩ := parse_vals c0 (mC c0 (List.mem_cons_self))
      exact ⟨n, e, fun c0' r' h => by injection h with h _; subst h; exact h1, h2⟩
  have hto := told_f 1000 m t 0 ⟨#[]⟩ mi fs T C n e (by omega) gT gC (fun v hv => by have := (vals_good v (mT v hv)).2; omega) hP
  have hR : frame_Request.f 1000 m t 0 ⟨#[]⟩ mi fs = frame_or.f (toldS T C mi n e).1 (toldS T C mi n e).2.1 (toldS T C mi n e).2.2 1 := by
    unfold frame_Request.f
    rw [Right_made hm ht hmi hlen hf 1000 (by omega)]
    simp only [Option.bind_some]
    rw [if_pos trivial, hto]
    simp only [Option.bind_some]
    cases frame_or.f (toldS T C mi n e).1 (toldS T C mi n e).2.1 (toldS T C mi n e).2.2 1 <;> rfl
  refine ⟨1000, ?_⟩
  unfold lockagelaw07_FrameSafe.f
  rw [awake_at 1000 (by omega)]
  simp only [Option.bind_some]
  rw [if_pos trivial, hM 1000 (by omega)]
  simp only [Option.bind_some]
  rw [hR, rT, rC]
  clear hR rT rC hto gT gC eT eC hT hC hM mT mC hP hsm hf hw
  have J : ∀ (x3 : Bool) (x6 : Int) (x7 x8 : List ByteArray) (x52 : Bool) (a b : Int), lockagelaw07_FrameSafe.j0 1000 x3 x6 x7 x8 x52 a b = (if x52 = true then (if x3 = true then (some (x6 == 22)) else (some false)) else (if x6 = 0 then (if x3 = true then (if ((a == 3) == ((x7.length : Int) == 1)) = true then (if ((a == 2) == ((x8.length : Int) == 1)) = true then (if ((a == 1) == ((wrap64 ((x7.length : Int) + (x8.length : Int))) == 0)) = true then (if b ≥ 0 then (some (decide (b ≤ 4000))) else (some false)) else (some false)) else (some false)) else (some false)) else (some false)) else (if x3 = true then (some (a == 0 && (b == 0))) else (some false)))) := by
    intro x3 x6 x7 x8 x52 a b
    show lockagelaw07_FrameSafe.j0 (999 + 1) x3 x6 x7 x8 x52 a b = _
    unfold lockagelaw07_FrameSafe.j0
    rfl
  have L : ∀ a b : List ByteArray, a.length ≤ 6 → b.length ≤ 6 → wrap64 ((a.length : Int) + (b.length : Int)) = ((a.length + b.length : Nat) : Int) := fun a b h1 h2 => by unfold wrap64; omega
  simp only [J, L T C lT lC]
  clear J L
  have z0 : wrap64 0 = 0 := by unfold wrap64; omega
  have z1 : wrap64 1 = 1 := by unfold wrap64; omega
  have hmm : mi = 0 ∨ mi = 1 := hmi
  match T, C with
  | [], [] => simp [z0, z1, toldS, frame_or.f]
  | [], [c0] =>
    by_cases h1 : e = 1
    · simp [z0, z1, toldS, frame_or.f, h1]
    · by_cases h0 : e = 0
      · by_cases h4 : n > 4000
        · simp [z0, z1, toldS, frame_or.f, h0, h4]
        · have h5 : n ≤ 4000 := by omega
          simp [z0, z1, toldS, frame_or.f, h0, h4, hn, h5]
      · simp [z0, z1, toldS, frame_or.f, h1, h0]
  | [], c0 :: c1 :: r =>
    have : (1 : Int) < (r.length : Int) + 1 + 1 := by omega
    simp [z0, z1, toldS, frame_or.f, this]
  | [t0], [] =>
    rcases hmm with rfl | rfl
    · simp [z0, z1, toldS, frame_or.f]
    · by_cases h1 : Sp.lower t0.data.toList = [99, 104, 117, 110, 107, 101, 100]
      · simp [z0, z1, toldS, frame_or.f, h1]
      · simp [z0, z1, toldS, frame_or.f, h1]
  | [t0], c0 :: r =>
    have : (0 : Int) < (r.length : Int) + 1 := by omega
    simp [z0, z1, toldS, frame_or.f, this]
  | t0 :: t1 :: r, [] =>
    have h1 : (1 : Int) < (r.length : Int) + 1 + 1 := by omega
    have h2 : (0 : Int) < (r.length : Int) + 1 + 1 := by omega
    simp [z0, z1, toldS, frame_or.f, h1, h2]
  | t0 :: t1 :: r, c0 :: r' =>
    have h1 : (1 : Int) < (r.length : Int) + 1 + 1 := by omega
    have h2 : (0 : Int) < (r.length : Int) + 1 + 1 := by omega
    have h3 : (0 : Int) < (r'.length : Int) + 1 := by omega
    simp [z0, z1, toldS, frame_or.f, h1, h2, h3]
end Go.Proofs.YtljppmpigijgaaaDoor.P
