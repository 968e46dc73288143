/- Several parts together: Plain facts about the plain functions of header fields: small letters, trimming, names, cutting; lists of bytes alone; What the printed functions of header fields come to: names, values, what a name has; plain Lean, no program; What the reference functions of header fields come to: small letters, what a name has; plain Lean, no program; What the reference functions of header fields come to, of any texts: names, blanks, trimming, values; plain Lean, no program; Decimal digits: num.Text and the reference's Text come to the same; plain Lean, no program; The law AnswerErrors answers true; plain Lean, no program. -/
import Derived.Test.YtlmmhcpomnjogaaDoorHZA
import Derived.Test.YtlmmhcpomnjogaaDoorHZB
import Derived.Test.YtlmmhcpomnjogaaDoorPx4
import Derived.Lib.LazyBuf
import Derived.Lib.ItoaLen
import Derived.Test.YtlmmhcpomnjogaaDoorPx2
import Derived.Test.YtlmmhcpomnjogaaDoorPx3
import Derived.Test.YtlmmhcpomnjogaaDoorPx7
set_option linter.unusedVariables false
set_option linter.unusedSimpArgs false
namespace Go.Proofs.YtlmmhcpomnjogaaDoor.Sp
end Go.Proofs.YtlmmhcpomnjogaaDoor.Sp
namespace Go.Proofs.YtlmmhcpomnjogaaDoor.P
open Go.RowKit Go.Proofs.YtlmmhcpomnjogaaDoorW.PrintWords Go.Proofs.YtlmmhcpomnjogaaDoorW.PrintLast Go.Proofs.YtlmmhcpomnjogaaDoorW.PrintMore

theorem mk_size (l : List UInt8) : (⟨l.toArray⟩ : ByteArray).size = l.length := by show l.toArray.size = _; rw [List.size_toArray]
theorem toList_data (a : ByteArray) : a.toList = a.data.toList := ByteArray.toList_eq a
end Go.Proofs.YtlmmhcpomnjogaaDoor.P
namespace Go.Proofs.YtlmmhcpomnjogaaDoor.P
open Go.RowKit Go.Proofs.YtlmmhcpomnjogaaDoorW.PrintWords Go.Proofs.YtlmmhcpomnjogaaDoorW.PrintLast Go.Proofs.YtlmmhcpomnjogaaDoorW.PrintMore

end Go.Proofs.YtlmmhcpomnjogaaDoor.P
namespace Go.Proofs.YtlmmhcpomnjogaaDoor.P
open Go.RowKit Go.Proofs.YtlmmhcpomnjogaaDoorW.PrintWords Go.Proofs.YtlmmhcpomnjogaaDoorW.PrintLast Go.Proofs.YtlmmhcpomnjogaaDoorW.PrintMore
end Go.Proofs.YtlmmhcpomnjogaaDoor.P
namespace Go.Proofs.YtlmmhcpomnjogaaDoor.P
open Go.RowKit Go.Proofs.YtlmmhcpomnjogaaDoorW.PrintWords Go.Proofs.YtlmmhcpomnjogaaDoorW.PrintLast Go.Proofs.YtlmmhcpomnjogaaDoorW.PrintMore
theorem digit16_at (d : Nat) (h : d < 10) : (⟨#[48, 49, 50, 51, 52, 53, 54, 55, 56, 57, 97, 98, 99, 100, 101, 102]⟩ : ByteArray).extract d (d + 1) = ⟨#[UInt8.ofNat (48 + d)]⟩ := by
 have a : ((List.range 10).all fun d => ((⟨#[48, 49, 50, 51, 52, 53, 54, 55, 56, 57, 97, 98, 99, 100, 101, 102]⟩ : ByteArray).extract d (d + 1)).data.toList == [UInt8.ofNat (48 + d)]) = true := by kernel_rfl
 rw [List.all_eq_true] at a
 have := a d (List.mem_range.2 h)
 exact H.ba_ext (by simpa using this)
theorem wrap_m (m : Nat) (h : m < 10) : wrap64 ((m : Int) + 1) = ((m + 1 : Nat) : Int) := by unfold wrap64; omega
theorem wrap_d (m : Nat) (h : m ≤ 9007199254740992) : wrap64 (m : Int) = (m : Int) := by unfold wrap64; omega
theorem RefText_ev : ∀ (n k : Nat), n ≤ 9007199254740992 → 2 * Lib.nDigits n + 2 ≤ k → lockageref03_Text.f k (n : Int) 10 = some ⟨(Lib.decDigits n).toArray⟩ := by
 intro n
 induction n using Nat.strongRecOn with
 | _ n ih =>
  intro k hn hk
  have hd1 : 1 ≤ Lib.nDigits n := by
   rw [Lib.nDigits]; split <;> omega
  obtain ⟨k, rfl⟩ : ∃ j, k = j + 2 := ⟨k - 2, by omega⟩
  have et : Int.tmod (n : Int) 10 = ((n % 10 : Nat) : Int) := rfl
  have ed : Int.tdiv (n : Int) 10 = ((n / 10 : Nat) : Int) := rfl
  have hm : n % 10 < 10 := Nat.mod_lt _ (by decide)
  rw [lockageref03_Text.f]
  have hf : lockageref03_Fits.f (n : Int) = some true := by
   unfold lockageref03_Fits.f
   rw [if_pos (by omega), decide_eq_true (by omega)]
  rw [hf, Option.bind_some, if_pos rfl, if_pos rfl]
  rw [lockageref03_Text.j0, if_neg (by decide), if_neg (by decide), et, wrap_m _ hm, if_pos (by omega), if_pos (by omega), if_pos (by omega), Int.toNat_natCast, Int.toNat_natCast, digit16_at _ hm]
  by_cases h10 : n < 10
  ·rw [if_pos (by omega), Lib.decDigits_one h10, Nat.mod_eq_of_lt h10]
  ·rw [if_neg (by omega), ed]
   have hnd : Lib.nDigits n = Lib.nDigits (n / 10) + 1 := by rw [Lib.nDigits, dif_neg h10]
   rw [wrap_d (n / 10) (by omega), ih (n / 10) (by omega) k (by omega) (by omega)]
   simp only [Option.bind_some]
   have hl : (⟨(Lib.decDigits (n / 10)).toArray⟩ : ByteArray).size ≤ 30 := by
    rw [mk_size, Lib.decDigits_length]
    have := Lib.nDigits_le20 (n / 10) (by omega)
    omega
   have h1 : (⟨#[UInt8.ofNat (48 + n % 10)]⟩ : ByteArray).size = 1 := rfl
   rw [if_pos (by rw [h1]; omega)]
   congr 1
   apply H.ba_ext
   rw [Lib.decDigits.eq_1 n, dif_neg h10]
   simp [ByteArray.data_append]
theorem num_text (n : Int) (h0 : -9223372036854775808 ≤ n) (h1 : n ≤ 9223372036854775807) : num_Text.f n 10 = some (H.text10 n) ∧ (H.text10 n).size ≤ 30 := by
 refine ⟨by unfold num_Text.f; rw [if_pos rfl, if_pos h0, if_pos h1], ?_⟩
 unfold H.text10
 split
 ·rw [mk_size]
  have := Lib.itoa_length_le n h0 h1
  omega
 ·decide
theorem both_text (n : Int) (h0 : -9223372036854775808 ≤ n) (h1 : n ≤ 9223372036854775807) : num_Text.f n 10 = some (H.text10 n) ∧ (H.text10 n).size ≤ 30 ∧ ∀ k, 60 ≤ k → lockageref03_Text.f k n 10 = some (H.text10 n) := by
 refine ⟨(num_text n h0 h1).1, (num_text n h0 h1).2, fun k hk => ?_⟩
 ·unfold H.text10
  split
  ·rename_i h
   obtain ⟨u, rfl⟩ : ∃ u : Nat, n = u := ⟨n.toNat, by omega⟩
   rw [Lib.itoa_nonneg, RefText_ev u k (by omega) (by have := Lib.nDigits_le20 u (by omega); omega)]
  ·rename_i h
   obtain ⟨k, rfl⟩ : ∃ j, k = j + 2 := ⟨k - 2, by omega⟩
   rw [lockageref03_Text.f]
   have hf : lockageref03_Fits.f n = some false := by
    unfold lockageref03_Fits.f
    by_cases hn : n ≥ 0
    ·rw [if_pos hn, decide_eq_false (fun e => h ⟨hn, e⟩)]
    ·rw [if_neg hn]
   rw [hf, Option.bind_some, if_neg (by decide), lockageref03_Text.j0, if_pos rfl]
end Go.Proofs.YtlmmhcpomnjogaaDoor.P
namespace Go.Proofs.YtlmmhcpomnjogaaDoor.P
open Go.RowKit Go.Proofs.YtlmmhcpomnjogaaDoorW.PrintWords Go.Proofs.YtlmmhcpomnjogaaDoorW.PrintLast Go.Proofs.YtlmmhcpomnjogaaDoorW.PrintMore
theorem Status_ev (e : Int) (k : Nat) : ∃ n, answer_Status.f (k + 1) e = some n ∧ lockageref19_Status.f (k + 1) e = some n ∧ (n = 400 ∨ n = 404 ∨ n = 413 ∨ n = 500 ∨ n = 502 ∨ n = 503 ∨ n = 504 ∨ n = 505) := by
 by_cases h : e = 20 ∨ e = 21 ∨ e = 22 ∨ e = 23 ∨ e = 30 ∨ e = 31 ∨ e = 32 ∨ e = 33 ∨ e = 40 ∨ e = 41 ∨ e = 2 ∨ e = 51 ∨ e = 4 ∨ e = 52 ∨ e = 24
 ·rcases h with rfl | rfl | rfl | rfl | rfl | rfl | rfl | rfl | rfl | rfl | rfl | rfl | rfl | rfl | rfl
  all_goals first
   | exact ⟨400, rfl, rfl, by omega⟩
   | exact ⟨404, rfl, rfl, by omega⟩
   | exact ⟨413, rfl, rfl, by omega⟩
   | exact ⟨502, rfl, rfl, by omega⟩
   | exact ⟨503, rfl, rfl, by omega⟩
   | exact ⟨504, rfl, rfl, by omega⟩
   | exact ⟨505, rfl, rfl, by omega⟩
 ·simp only [not_or] at h
  obtain ⟨h0, h1, h2, h3, h4, h5, h6, h7, h8, h9, h10, h11, h12, h13, h14⟩ := h
  have hb : (e == 40) = false := by rw [beq_eq_false_iff_ne]; exact h8
  have hft : ¬ ((false : Bool) = true) := by decide
  refine ⟨500, ?_, ?_, by omega⟩
  ·unfold answer_Status.f
   rw [if_neg h0, if_neg h1, if_neg h2, if_neg h3, if_neg h4, if_neg h5, if_neg h6, if_neg h7, answer_Status.j0, hb, if_neg hft, if_neg h9, if_neg h10, if_neg h11, if_neg h12, if_neg h13, if_neg h14]
  ·unfold lockageref19_Status.f
   rw [if_neg h10, if_neg h14, if_neg h9, if_neg h12, if_neg h11, if_neg h13, if_neg h0, if_neg h1, if_neg h2, if_neg h3, if_neg h4, if_neg h5, if_neg h6, if_neg h7, lockageref19_Status.j0, hb, if_neg hft]
theorem reason_some (n : Int) : ∃ t, lockageref19_reason.f n = some t := by
 unfold lockageref19_reason.f
 repeat' split
 all_goals exact ⟨_, rfl⟩
theorem Same_refl (a b : ByteArray) (c : Int) (d : ByteArray) (e : Int) (x : S36) (t : ByteArray) (k : Nat) : lockageref15_Same.f (k + 2) a b c d e [x] t a b c d e [x] t = some true := by
 unfold lockageref15_Same.f
 rw [if_pos rfl, if_pos rfl, if_pos rfl, if_pos rfl, if_pos rfl, if_pos rfl]
 have : lockageref05_Same.f (k + 2) [x] [x] = some true := by
  unfold lockageref05_Same.f
  rw [if_pos rfl]
  have e1 : rd_T36 [x] 0 = x := rfl
  have w1 : wrap64 (0 + 1) = 1 := by unfold wrap64; omega
  rw [lockageref05_Same.l0, if_pos (by simp), if_pos (by decide), if_pos (by simp), e1, if_neg (by simp), w1, lockageref05_Same.l0, if_neg (by simp)]
 rw [this, Option.bind_some]
theorem Error_ev (e : Int) (h0 : -9223372036854775808 ≤ e) (h1 : e ≤ 9223372036854775807) (k : Nat) (hk : 60 ≤ k) :
  ∃ n t b, answer_Error.f k e = some (⟨#[]⟩, ⟨#[]⟩, n, t, 1, [⟨(⟨#[67, 111, 110, 116, 101, 110, 116, 45, 84, 121, 112, 101]⟩ : ByteArray), (⟨#[116, 101, 120, 116, 47, 112, 108, 97, 105, 110]⟩ : ByteArray)⟩], b) ∧ lockageref19_Error.f k e = some (⟨#[]⟩, ⟨#[]⟩, n, t, 1, [⟨(⟨#[67, 111, 110, 116, 101, 110, 116, 45, 84, 121, 112, 101]⟩ : ByteArray), (⟨#[116, 101, 120, 116, 47, 112, 108, 97, 105, 110]⟩ : ByteArray)⟩], b) := by
 obtain ⟨k, rfl⟩ : ∃ j, k = j + 1 := ⟨k - 1, by omega⟩
 obtain ⟨n, n1, n2, _⟩ := Status_ev e k
 obtain ⟨t, ht⟩ := reason_some n
 obtain ⟨b1, b2, b3⟩ := both_text e h0 h1
 have s1 : 6 + (H.text10 e).size ≤ 9223372036854775807 := by omega
 have s2 : ((⟨#[101, 114, 114, 111, 114, 32]⟩ : ByteArray) ++ H.text10 e).size + 1 ≤ 9223372036854775807 := by
  have : ((⟨#[101, 114, 114, 111, 114, 32]⟩ : ByteArray) ++ H.text10 e).size = 6 + (H.text10 e).size := by rw [ByteArray.size_append]; rfl
  omega
 refine ⟨n, t, ((⟨#[101, 114, 114, 111, 114, 32]⟩ : ByteArray) ++ H.text10 e) ++ (⟨#[10]⟩ : ByteArray), ?_, ?_⟩
 ·unfold answer_Error.f
  rw [n1, Option.bind_some, ht, Option.bind_some, b1, Option.bind_some, if_pos s1, if_pos s2]
 ·unfold lockageref19_Error.f
  rw [n2, Option.bind_some, ht, Option.bind_some, b3 _ hk, Option.bind_some, if_pos s1, if_pos s2]
theorem awake19 : lockagelaw19_awake.f 400 = some true := by kernel_rfl
theorem awake19_k (k : Nat) : lockagelaw19_awake.f (400 + k) = some true := by
 induction k with
 | zero => exact awake19
 | succ k ih => exact lockagelaw19_awake.mono (400 + k) true ih
theorem rd_0 (a b : Int) : rd [a, b] 0 = a := rfl
theorem rd_1 (a b : Int) : rd [a, b] 1 = b := rfl
theorem AnswerErrors_pure : lockagelaw19_AnswerErrors.Pure := by
 intro a0 a1 w0 w1
 have g0 : -9223372036854775808 ≤ a0 ∧ a0 ≤ 9223372036854775807 := by
  have h := w0
  unfold Lit.wf at h
  simp [IntKind.min, IntKind.max, IntKind.signed, IntKind.bits] at h
  omega
 have g1 : -9223372036854775808 ≤ wrap64 a1 ∧ wrap64 a1 ≤ 9223372036854775807 := by unfold wrap64; omega
 refine ⟨1003, ?_⟩
 have step : ∀ (x : Int) (l : List Int) (i : Int) (k : Nat), 60 ≤ k → -9223372036854775808 ≤ x → x ≤ 9223372036854775807 → i < 2 → 0 ≤ i → (l.length : Int) = 2 → rd l i = x → lockagelaw19_AnswerErrors.l0 (k + 1) l 2 i = lockagelaw19_AnswerErrors.l0 k l 2 (wrap64 (i + 1)) := by
  intro x l i k hk hx0 hx1 hi h0 hl hr
  obtain ⟨j, rfl⟩ : ∃ j, k = j + 2 := ⟨k - 2, by omega⟩
  obtain ⟨n, n1, n2, _⟩ := Status_ev x (j + 1)
  obtain ⟨n', t, b, e1, e2⟩ := Error_ev x hx0 hx1 (j + 2) hk
  rw [lockagelaw19_AnswerErrors.l0, if_pos hi, if_pos h0, if_pos (by omega), hr, n1, Option.bind_some, n2, Option.bind_some, if_pos rfl, e1, Option.bind_some, e2, Option.bind_some]
  dsimp only
  rw [Same_refl, Option.bind_some, if_pos rfl]
 have v1 : wrap64 (0 + 1) = 1 := by unfold wrap64; omega
 have v2 : wrap64 (1 + 1) = 2 := by unfold wrap64; omega
 unfold lockagelaw19_AnswerErrors.f
 rw [Option.bind_some]
 show lockagelaw19_AnswerErrors.l0 1003 [a0, wrap64 a1] 2 0 = _
 rw [step a0 _ 0 1002 (by decide) g0.1 g0.2 (by decide) (by decide) rfl (rd_0 _ _), v1, step (wrap64 a1) _ 1 1001 (by decide) g1.1 g1.2 (by decide) (by decide) rfl (rd_1 _ _), v2, lockagelaw19_AnswerErrors.l0, if_neg (by decide), awake19_k 600, Option.bind_some]
theorem AnswerErrors_ok (a0 : Int) (w0 : (Lit.int .i64 a0).wf = true) (a1 : Int) (w1 : (Lit.int .u8 a1).wf = true) : ∃ k, lockagelaw19_AnswerErrors.f k a0 a1 = some true := AnswerErrors_pure a0 a1 w0 w1
end Go.Proofs.YtlmmhcpomnjogaaDoor.P
