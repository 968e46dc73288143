/- What lockagelaw06.Made comes to: a right head of at most six fields, names and values from two lists; plain Lean, no program. -/
import Derived.Test.YtljppmpigijgaaaDoorPE
import Derived.Test.YtljppmpigijgaaaDoorHK
import Derived.Test.YtljppmpigijgaaaDoorHG
import Derived.OpenShut
import Derived.Test.YtljppmpigijgaaaDoorPx2
import Derived.Test.YtljppmpigijgaaaDoorPx3
namespace Go.Proofs.YtljppmpigijgaaaDoor.P
open Go.RowKit Go.Proofs.YtljppmpigijgaaaDoorW.PrintWords Go.Proofs.YtljppmpigijgaaaDoorW.PrintLast Go.Proofs.YtljppmpigijgaaaDoorW.PrintMore
def mNames : List ByteArray := [(⟨#[72, 111, 115, 116]⟩ : ByteArray), (⟨#[67, 111, 110, 116, 101, 110, 116, 45, 76, 101, 110, 103, 116, 104]⟩ : ByteArray), (⟨#[84, 114, 97, 110, 115, 102, 101, 114, 45, 69, 110, 99, 111, 100, 105, 110, 103]⟩ : ByteArray), (⟨#[67, 111, 110, 110, 101, 99, 116, 105, 111, 110]⟩ : ByteArray), (⟨#[67, 111, 111, 107, 105, 101]⟩ : ByteArray), (⟨#[86, 97, 114, 121]⟩ : ByteArray), (⟨#[65]⟩ : ByteArray), (⟨#[97, 99, 99, 101, 112, 116]⟩ : ByteArray), (⟨#[82, 97, 110, 103, 101]⟩ : ByteArray), (⟨#[67, 97, 99, 104, 101, 45, 67, 111, 110, 116, 114, 111, 108]⟩ : ByteArray), (⟨#[65, 117, 116, 104, 111, 114, 105, 122, 97, 116, 105, 111, 110]⟩ : ByteArray), (⟨#[88, 45, 70, 111, 114, 119, 97, 114, 100, 101, 100, 45, 70, 111, 114]⟩ : ByteArray), (⟨#[75, 101, 101, 112, 45, 65, 108, 105, 118, 101]⟩ : ByteArray)]
def mVals : List ByteArray := [(⟨#[]⟩ : ByteArray), (⟨#[51]⟩ : ByteArray), (⟨#[99, 104, 117, 110, 107, 101, 100]⟩ : ByteArray), (⟨#[99, 108, 111, 115, 101]⟩ : ByteArray), (⟨#[107, 101, 101, 112, 45, 97, 108, 105, 118, 101, 44, 32, 65]⟩ : ByteArray), (⟨#[97, 44, 32, 98]⟩ : ByteArray), (⟨#[110, 111, 45, 115, 116, 111, 114, 101]⟩ : ByteArray), (⟨#[48]⟩ : ByteArray), (⟨#[120]⟩ : ByteArray), (⟨#[65, 99, 99, 101, 112, 116]⟩ : ByteArray), (⟨#[97, 99, 99, 101, 112, 116, 44, 32, 65]⟩ : ByteArray)]
def mMeths : List ByteArray := [(⟨#[71, 69, 84]⟩ : ByteArray), (⟨#[80, 79, 83, 84]⟩ : ByteArray), (⟨#[72, 69, 65, 68]⟩ : ByteArray), (⟨#[80, 85, 84]⟩ : ByteArray), (⟨#[120, 45, 121]⟩ : ByteArray)]
def mTargs : List ByteArray := [(⟨#[47]⟩ : ByteArray), (⟨#[47, 97, 47, 98]⟩ : ByteArray), (⟨#[47, 97, 63, 120, 61, 49]⟩ : ByteArray), (⟨#[42]⟩ : ByteArray), (⟨#[47, 37, 52, 49]⟩ : ByteArray)]
theorem rdOf_mem {l : List ByteArray} {i : Int} (h0 : 0 ≤ i) (h : i < (l.length : Int)) : rdOf ByteArray.empty l i ∈ l := by
  have hl : i.toNat < l.length := by omega
  unfold rdOf
  rw [List.getD_eq_getElem?_getD, List.getElem?_eq_getElem hl]
  exact List.getElem_mem hl
theorem Pick_ok (l : List Int) (hl : l.length ≤ 281474976710656) (hw : ∀ x ∈ l, (Lit.int .u8 x).wf = true) (i n : Nat) (hi : i ≤ 1000) (hn : 0 < n) :
    ∃ r : Int, lockagelaw06_Maker_Pick.f l i n = some (r, ((i + 1 : Nat) : Int)) ∧ 0 ≤ r ∧ r < n := by
  have e1 : wrap64 ((i : Int) + 1) = ((i + 1 : Nat) : Int) := by unfold wrap64; omega
  have e2 : wrap64 (((i + 1 : Nat) : Int) - 1) = (i : Int) := by unfold wrap64; omega
  unfold lockagelaw06_Maker_Pick.f
  rw [e1, e2]
  clear e1 e2
  by_cases h : ((i + 1 : Nat) : Int) > (l.length : Int)
  · rw [if_pos h]
    exact ⟨0, rfl, by omega, by omega⟩
  · have hx : rd l (i : Int) = l[i]'(by omega) := by simp [rd, show i < l.length by omega]
    have hb := bounds_u8 (hw (l[i]'(by omega)) (List.getElem_mem _))
    have ex : wrap64 (l[i]'(by omega)) = l[i]'(by omega) := by
      generalize l[i]'(by omega) = v at hb
      unfold wrap64; omega
    rw [if_neg h, if_pos (by omega), if_pos (by omega), if_neg (by omega), hx, ex]
    exact ⟨_, rfl, Int.tmod_nonneg _ hb.1, Int.tmod_lt_of_pos _ (by omega)⟩
def MFs (l : List S32) : Prop := ∀ x ∈ l, x.f0 ∈ mNames ∧ x.f1 ∈ mVals
theorem Head_l0 (l : List Int) (hl : l.length ≤ 281474976710656) (hw : ∀ x ∈ l, (Lit.int .u8 x).wf = true) (m t s : ByteArray) (st mi : Int) (d : Nat) :
    ∀ (i k : Nat) (acc : List S32), d ≤ 6 → acc.length + d ≤ 6 → i + 2 * d ≤ 900 → d + 1 ≤ k → MFs acc →
      ∃ fs j, lockagelaw06_Maker_Head.l0 k (d : Int) l (i : Int) m t st s mi acc = some (m, t, st, s, mi, fs, j) ∧ fs.length ≤ 6 ∧ MFs fs := by
  induction d with
  | zero =>
    intro i k acc hd ha hi hk hm
    obtain ⟨k, rfl⟩ : ∃ j, k = j + 1 := ⟨k - 1, by omega⟩
    unfold lockagelaw06_Maker_Head.l0
    rw [if_neg (by omega)]
    exact ⟨acc, _, rfl, by omega, hm⟩
  | succ d ih =>
    intro i k acc hd ha hi hk hm
    obtain ⟨k, rfl⟩ : ∃ j, k = j + 1 := ⟨k - 1, by omega⟩
    obtain ⟨r1, p1, a1, b1⟩ := Pick_ok l hl hw i 13 (by omega) (by omega)
    obtain ⟨r2, p2, a2, b2⟩ := Pick_ok l hl hw (i + 1) 11 (by omega) (by omega)
    have hm2 : MFs (acc ++ [(⟨rdOf ByteArray.empty mNames r1, rdOf ByteArray.empty mVals r2⟩ : S32)]) := by
      intro x hx
      rcases List.mem_append.1 hx with hx | hx
      · exact hm x hx
      · obtain rfl := List.mem_singleton.1 hx
        exact ⟨rdOf_mem a1 b1, rdOf_mem a2 b2⟩
    obtain ⟨fs, j, h1, h2, h3⟩ := ih (i + 2) k _ (by omega) (by simp; omega) (by omega) (by omega) hm2
    refine ⟨fs, j, ?_, h2, h3⟩
    have q1 : lockagelaw06_Maker_Pick.f l (i : Int) 13 = some (r1, ((i + 1 : Nat) : Int)) := p1
    have q2 : lockagelaw06_Maker_Pick.f l ((i + 1 : Nat) : Int) 11 = some (r2, ((i + 2 : Nat) : Int)) := p2
    have e1 : wrap64 (((d + 1 : Nat) : Int) - 1) = (d : Int) := by unfold wrap64; omega
    have c1 : ((d + 1 : Nat) : Int) > 0 := by omega
    have c2 : acc.length < 4398046511104 := by omega
    clear p1 p2 hm2 ih hm hi hk ha hd
    simp only [mNames, mVals] at h1
    unfold lockagelaw06_Maker_Head.l0
    simp only [Option.bind_some, List.length_cons, List.length_nil, Nat.zero_add, Nat.reduceAdd, if_pos c1, q1, q2, if_pos a1, if_pos b1, if_pos a2, if_pos b2, if_pos c2, e1]
    exact h1
theorem Head_j0 (l : List Int) (hl : l.length ≤ 281474976710656) (hw : ∀ x ∈ l, (Lit.int .u8 x).wf = true) (m t s : ByteArray) (st mi : Int) (i k : Nat) (hi : i ≤ 100) (hk : 20 ≤ k) :
    ∃ fs j, lockagelaw06_Maker_Head.j0 k l (i : Int) m t st s mi = some (m, t, st, s, mi, fs, j) ∧ fs.length ≤ 6 ∧ MFs fs := by
  obtain ⟨k, rfl⟩ : ∃ j, k = j + 1 := ⟨k - 1, by omega⟩
  obtain ⟨r, p, a, b⟩ := Pick_ok l hl hw i 7 (by omega) (by omega)
  obtain ⟨d, rfl⟩ := Int.eq_ofNat_of_zero_le a
  obtain ⟨fs, j, h1, h2, h3⟩ := Head_l0 l hl hw m t s st mi d (i + 1) k [] (by omega) (by simp; omega) (by omega) (by omega) (fun x hx => by cases hx)
  refine ⟨fs, j, ?_, h2, h3⟩
  unfold lockagelaw06_Maker_Head.j0
  dsimp only
  have q : lockagelaw06_Maker_Pick.f l (i : Int) 7 = some ((d : Int), ((i + 1 : Nat) : Int)) := p
  rw [q]
  simp only [Option.bind_some]
  exact h1
theorem Made_false (l : List Int) (hl : l.length ≤ 281474976710656) (hw : ∀ x ∈ l, (Lit.int .u8 x).wf = true) :
    ∃ m t mi fs, (∀ k, 20 ≤ k → lockagelaw06_Made.f k l false = some (m, t, 0, ⟨#[]⟩, mi, fs)) ∧ m ∈ mMeths ∧ t ∈ mTargs ∧ (mi = 0 ∨ mi = 1) ∧ fs.length ≤ 6 ∧ MFs fs := by
  obtain ⟨r1, p1, a1, b1⟩ := Pick_ok l hl hw 0 2 (by omega) (by omega)
  obtain ⟨r2, p2, a2, b2⟩ := Pick_ok l hl hw 1 5 (by omega) (by omega)
  obtain ⟨r3, p3, a3, b3⟩ := Pick_ok l hl hw 2 5 (by omega) (by omega)
  obtain ⟨fs, j, h1, h2, h3⟩ := Head_j0 l hl hw (rdOf ByteArray.empty mMeths r2) (rdOf ByteArray.empty mTargs r3) ⟨#[]⟩ 0 (wrap64 (1 - r1)) 3 20 (by omega) (by omega)
  refine ⟨rdOf ByteArray.empty mMeths r2, rdOf ByteArray.empty mTargs r3, wrap64 (1 - r1), fs, fun k hk => at_rounds (lockagelaw06_Made.mono l false) hk ?_, rdOf_mem a2 b2, rdOf_mem a3 b3, ?_, h2, h3⟩
  · unfold lockagelaw06_Made.f lockagelaw06_Maker_Head.f
    have q1 : lockagelaw06_Maker_Pick.f l 0 2 = some (r1, 1) := p1
    have q2 : lockagelaw06_Maker_Pick.f l 1 5 = some (r2, 2) := p2
    have q3 : lockagelaw06_Maker_Pick.f l 2 5 = some (r3, 3) := p3
    have q4 : lockagelaw06_Maker_Head.j0 20 l 3 (rdOf ByteArray.empty mMeths r2) (rdOf ByteArray.empty mTargs r3) 0 ⟨#[]⟩ (wrap64 (1 - r1)) = some (rdOf ByteArray.empty mMeths r2, rdOf ByteArray.empty mTargs r3, 0, ⟨#[]⟩, wrap64 (1 - r1), fs, j) := h1
    rw [q1]
    simp only [Option.bind_some]
    rw [if_neg (by decide), q2]
    simp only [Option.bind_some]
    simp only [List.length_cons, List.length_nil, Nat.zero_add, Nat.reduceAdd]
    rw [if_pos a2, if_pos b2, q3]
    simp only [Option.bind_some]
    rw [if_pos a3, if_pos b3]
    simp only [mMeths, mTargs] at q4
    rw [q4]
    rfl
  · have : r1 = 0 ∨ r1 = 1 := by omega
    rcases this with rfl | rfl
    · exact .inr (by unfold wrap64; omega)
    · exact .inl (by unfold wrap64; omega)
theorem meths_good : ∀ m ∈ mMeths, Sp.nameB m.data.toList = true ∧ m.size ≤ 100 := by
  have h : (mMeths.all fun m => Sp.nameB m.data.toList && decide (m.size ≤ 100)) = true := by kernel_rfl
  intro m hm
  have := List.all_eq_true.1 h m hm
  simpa using this
theorem targs_good : ∀ m ∈ mTargs, head_target.f 30 m = some true := by
  have h : (mTargs.all fun m => head_target.f 30 m == some true) = true := by kernel_rfl
  intro m hm
  have := List.all_eq_true.1 h m hm
  simpa using this
theorem names_good : ∀ m ∈ mNames, Sp.nameB m.data.toList = true ∧ m.size ≤ 100 := by
  have h : (mNames.all fun m => Sp.nameB m.data.toList && decide (m.size ≤ 100)) = true := by kernel_rfl
  intro m hm
  have := List.all_eq_true.1 h m hm
  simpa using this
theorem vals_good : ∀ m ∈ mVals, Sp.valB m.data.toList = true ∧ m.size ≤ 100 := by
  have h : (mVals.all fun m => Sp.valB m.data.toList && decide (m.size ≤ 100)) = true := by kernel_rfl
  intro m hm
  have := List.all_eq_true.1 h m hm
  simpa using this
theorem made_small {fs : List S32} (h : MFs fs) : smallF fs = true := by
  unfold smallF
  rw [List.all_eq_true]
  intro x hx
  have h1 := (names_good _ (h x hx).1).2
  have h2 := (vals_good _ (h x hx).2).2
  simp only [Bool.and_eq_true, decide_eq_true_eq]
  omega
theorem made_good {fs : List S32} (h : MFs fs) : fs.any badF = false := by
  rw [List.any_eq_false]
  intro x hx
  unfold badF
  rw [(names_good _ (h x hx).1).1, (vals_good _ (h x hx).2).1]
  decide
theorem Right_made {m t : ByteArray} {mi : Int} {fs : List S32} (hm : m ∈ mMeths) (ht : t ∈ mTargs) (hi : mi = 0 ∨ mi = 1) (hl : fs.length ≤ 6) (hf : MFs fs) (k : Nat) (hk : 30 ≤ k) :
    head_Right.f k m t 0 ⟨#[]⟩ mi fs false = some true := by
  have hms := meths_good m hm
  unfold head_Right.f
  rw [if_pos (made_small hf), if_neg (by omega), if_neg (by omega), if_neg (by omega), if_neg (by rw [made_good hf]; decide), if_neg (by decide), name_f (by omega), hms.1]
  simp only [Option.bind_some]
  rw [if_pos trivial, at_rounds (head_target.mono t) hk (targs_good t ht)]
  simp only [Option.bind_some]
  rw [if_pos trivial, if_pos trivial, toList_data]
  rfl
end Go.Proofs.YtljppmpigijgaaaDoor.P
