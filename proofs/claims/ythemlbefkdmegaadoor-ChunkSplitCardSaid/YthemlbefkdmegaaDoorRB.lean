/- Bodies in chunks: what chunk.Feed does with whole lines and whole chunks, and with what chunk.Encode has written; plain Lean, no program. -/
import Derived.Test.YthemlbefkdmegaaDoorRP
import Derived.Test.YthemlbefkdmegaaDoorHX8
import Derived.Test.YthemlbefkdmegaaDoorPx2
namespace Go.Proofs.YthemlbefkdmegaaDoor.P
open Go.RowKit Go.Proofs.YthemlbefkdmegaaDoorW.PrintWords Go.Proofs.YthemlbefkdmegaaDoorW.PrintLast Go.Proofs.YthemlbefkdmegaaDoorW.PrintMore
/-! ### digits -/
def hex3 (n : Nat) : List UInt8 := if n < 16 then [H.dg n] else if n < 256 then [H.dg (n / 16), H.dg (n % 16)] else [H.dg (n / 16 / 16), H.dg (n / 16 % 16), H.dg (n % 16)]
theorem hexL_3 (n : Nat) (h : n < 4096) : H.hexL n = hex3 n := by
  unfold hex3
  by_cases h1 : n < 16
  · rw [if_pos h1, H.hexL_one h1]
  · rw [if_neg h1, H.hexL_more h1]
    by_cases h2 : n < 256
    · rw [if_pos h2, H.hexL_one (by omega)]; rfl
    · rw [if_neg h2, H.hexL_more (by omega), H.hexL_one (by omega)]; rfl
def hexOk (n : Nat) : Bool := Sp.cutL 59 (hex3 n) == hex3 n && (Sp.trim (hex3 n) == hex3 n && (parseX (hex3 n) == ((n : Int), 0) && ((hex3 n).all (· != 10) && decide ((hex3 n).length ≤ 3))))
theorem hexOk_all : ((List.range 4001).all hexOk) = true := by kernel_rfl
theorem hex_ok {n : Nat} (h : n ≤ 4000) : Sp.cutL 59 (H.hexL n) = H.hexL n ∧ Sp.trim (H.hexL n) = H.hexL n ∧ parseX (H.hexL n) = ((n : Int), 0) ∧ (∀ b ∈ H.hexL n, b ≠ 10) ∧ (H.hexL n).length ≤ 3 := by
  have a := hexOk_all
  rw [List.all_eq_true] at a
  have := a n (List.mem_range.2 (by omega))
  unfold hexOk at this
  rw [hexL_3 n (by omega)]
  simp only [Bool.and_eq_true, beq_iff_eq, decide_eq_true_eq, List.all_eq_true, bne_iff_ne] at this
  exact ⟨this.1, this.2.1, this.2.2.1, this.2.2.2.1, this.2.2.2.2⟩
/-! ### lines -/
theorem line_size (n : Nat) (many : Int) (hn : (n : Int) ≤ 4000 - many) (hm : 0 ≤ many) (k : Nat) (hk : 60 ≤ k) :
    chunk_line.f k 0 0 many ⟨(H.hexL n).toArray⟩ = some (0, if n = 0 then 3 else 1, (n : Int)) := by
  obtain ⟨h1, h2, h3, _, h5⟩ := hex_ok (n := n) (by omega)
  have hs : (⟨(H.hexL n).toArray⟩ : ByteArray).size ≤ 9223372036854775806 := by rw [mk_size]; omega
  have e1 : strings_Cut.f ⟨(H.hexL n).toArray⟩ ⟨#[59]⟩ = some (⟨(H.hexL n).toArray⟩, ⟨(Sp.cutR 59 (H.hexL n)).toArray⟩, Sp.cutIs 59 (H.hexL n)) := by
    unfold strings_Cut.f
    rw [if_pos hs]
    show some ((⟨(Sp.cutL 59 (H.hexL n)).toArray⟩ : ByteArray), _, _) = _
    rw [h1]
  have e2 : chunk_size.f k many ⟨(H.hexL n).toArray⟩ = some (0, (n : Int)) := by
    unfold chunk_size.f
    rw [e1, Option.bind_some]
    dsimp only
    rw [trim_f hs, Option.bind_some]
    show (num_Parse.f k (⟨(Sp.trim (H.hexL n)).toArray⟩ : ByteArray) 16).bind _ = _
    rw [h2, Parse_evx _ hs k (by rw [mk_size]; omega)]
    show (some (parseX (H.hexL n))).bind _ = _
    rw [h3, Option.bind_some]
    dsimp only
    rw [if_neg (by decide), if_pos rfl, if_neg (by omega)]
  unfold chunk_line.f
  rw [if_pos rfl, e2, Option.bind_some]
  dsimp only
  by_cases h : n = 0
  · subst h; rfl
  · rw [if_neg h, if_neg (by omega), if_neg (by omega)]
theorem empty_list : (⟨#[]⟩ : ByteArray).toList = [] := by rw [ByteArray.toList_eq]
theorem line_gap (left many : Int) (k : Nat) : chunk_line.f k 2 left many ⟨#[]⟩ = some (0, 0, left) := by
  unfold chunk_line.f
  rw [if_neg (by decide), if_pos rfl, if_pos empty_list]
theorem line_end (left many : Int) (k : Nat) : chunk_line.f k 3 left many ⟨#[]⟩ = some (0, 4, left) := by
  unfold chunk_line.f
  rw [if_neg (by decide), if_neg (by decide), if_pos rfl, if_pos empty_list]
theorem byte_data (line : ByteArray) (c : UInt8) : (line ++ byteB c).data.toList = line.data.toList ++ [c] := by
  rw [ByteArray.data_append, Array.toList_append]; rfl
theorem byte_size (line : ByteArray) (c : UInt8) : (line ++ byteB c).size = line.size + 1 := by
  rw [ByteArray.size_append]; rfl
theorem endB_no (line : ByteArray) {c : UInt8} (h : c ≠ 10) : endB (line ++ byteB c) = false := by
  unfold endB Lib.hasSuffix
  rw [byte_data, Bool.eq_false_iff]
  intro e
  rw [List.isSuffixOf_iff_suffix] at e
  obtain ⟨t, ht⟩ := e
  have := congrArg List.getLast? ht
  simp at this
  exact h this.symm
theorem endB_yes (line : ByteArray) : endB ((line ++ byteB 13) ++ byteB 10) = true ∧ cutB ((line ++ byteB 13) ++ byteB 10) = line := by
  have e : ((line ++ byteB 13) ++ byteB 10).data.toList = line.data.toList ++ [13, 10] := by rw [byte_data, byte_data]; simp
  have h : Lib.hasSuffix ((line ++ byteB 13) ++ byteB 10).data.toList [13, 10] = true := by
    unfold Lib.hasSuffix
    rw [e, List.isSuffixOf_iff_suffix]
    exact ⟨_, rfl⟩
  refine ⟨h, ?_⟩
  unfold cutB Lib.trimSuffix
  rw [if_pos h, e]
  apply H.ba_ext
  simp
/-! ### steps -/
theorem at_drop {T : ByteArray} {i : Nat} {c : UInt8} {r : List UInt8} (h : T.data.toList.drop i = c :: r) : i < T.size ∧ T.data.toList.getD i 0 = c ∧ T.data.toList.drop (i + 1) = r := by
  have hlt : i < T.data.toList.length := by
    rcases Nat.lt_or_ge i T.data.toList.length with h' | h'
    · exact h'
    · rw [List.drop_of_length_le h'] at h; cases h
  have e := List.drop_eq_getElem_cons hlt
  rw [h] at e
  injection e with e1 e2
  refine ⟨by rw [← size_data]; exact hlt, ?_, e2.symm⟩
  rw [List.getD_eq_getElem?_getD, List.getElem?_eq_getElem hlt, Option.getD_some, ← e1]
theorem drop_app {T : ByteArray} {i : Nat} {l r : List UInt8} (h : T.data.toList.drop i = l ++ r) : T.data.toList.drop (i + l.length) = r := by
  rw [← List.drop_drop, h, List.drop_left]
theorem step_one {T : ByteArray} {i k : Nat} {st left : Int} {line : ByteArray} {many : Int} {body : ByteArray} {c : UInt8} {r : List UInt8} {p1 p2 : Int} {p3 : ByteArray} (hi : T.data.toList.drop i = c :: r) (h4 : st ≠ 4) (h1 : st ≠ 1) (hm : 0 ≤ many ∧ many ≤ 1000000)
    (ho : chunk_one.f k st left line many c = some (0, p1, p2, p3)) : chunk_Feed.l0 (k + 1) T i st left line many body = chunk_Feed.l0 k T (i + 1) p1 p2 p3 many body := by
  obtain ⟨a, b, _⟩ := at_drop hi
  rw [chunk_Feed.l0, if_pos a, if_neg h4, if_pos hm, if_neg h1, b, ho, Option.bind_some, if_pos rfl]
theorem one_mid {k : Nat} {st left : Int} {line : ByteArray} {many : Int} {c : UInt8} (h : c ≠ 10) (hs : line.size ≤ 199) : chunk_one.f k st left line many c = some (0, st, left, line ++ byteB c) := by
  unfold chunk_one.f
  rw [if_pos (by omega), endB_no line h, if_neg (by decide), if_neg (by rw [byte_size]; omega)]
theorem run_line {T : ByteArray} {st left many : Int} {body : ByteArray} (h4 : st ≠ 4) (h1 : st ≠ 1) (hm : 0 ≤ many ∧ many ≤ 1000000) : ∀ (l : List UInt8) (line : ByteArray) (i k : Nat) (r : List UInt8), T.data.toList.drop i = l ++ r → (∀ b ∈ l, b ≠ 10) → line.size + l.length ≤ 200 →
    chunk_Feed.l0 (k + l.length) T i st left line many body = chunk_Feed.l0 k T (i + l.length) st left (line ++ ⟨l.toArray⟩) many body
  | [], line, i, k, r, hi, hb, hs => by
    have e : line ++ (⟨([] : List UInt8).toArray⟩ : ByteArray) = line := H.ba_ext (by rw [ByteArray.data_append]; simp)
    rw [e]; rfl
  | c :: l, line, i, k, r, hi, hb, hs => by
    rw [List.length_cons] at hs
    rw [List.length_cons, ← Nat.add_assoc, step_one hi h4 h1 hm (one_mid (hb c List.mem_cons_self) (by omega)), run_line h4 h1 hm l (line ++ byteB c) (i + 1) k r (at_drop hi).2.2 (fun b h => hb b (List.mem_cons_of_mem _ h)) (by rw [byte_size]; omega)]
    have e : (line ++ byteB c) ++ (⟨l.toArray⟩ : ByteArray) = line ++ ⟨(c :: l).toArray⟩ := H.ba_ext (by
      rw [ByteArray.data_append, Array.toList_append, byte_data, ByteArray.data_append, Array.toList_append]; simp)
    rw [e, show i + (l.length + 1) = i + 1 + l.length by omega]
theorem end_line {T : ByteArray} {st left many : Int} {body : ByteArray} (h4 : st ≠ 4) (h1 : st ≠ 1) (hm : 0 ≤ many ∧ many ≤ 1000000) {line : ByteArray} {i k : Nat} {r : List UInt8} {p2 p3 : Int} (hi : T.data.toList.drop i = 13 :: 10 :: r) (hs : line.size ≤ 190) (hl : chunk_line.f k st left many line = some (0, p2, p3)) :
    chunk_Feed.l0 (k + 2) T i st left line many body = chunk_Feed.l0 k T (i + 2) p2 p3 ⟨#[]⟩ many body := by
  rw [step_one (k := k + 1) hi h4 h1 hm (one_mid (by decide) (by omega)), step_one (k := k) (at_drop hi).2.2 h4 h1 hm (p1 := p2) (p2 := p3) (p3 := ⟨#[]⟩)]
  unfold chunk_one.f
  rw [if_pos (by rw [byte_size]; omega), (endB_yes line).1, if_pos rfl, (endB_yes line).2, hl, Option.bind_some]
theorem take_chunk {T : ByteArray} {many : Int} {body line : ByteArray} (hm : 0 ≤ many ∧ many ≤ 1000000) (hb : body.size ≤ 1000000) {i k : Nat} {l r : List UInt8} (hi : T.data.toList.drop i = l ++ r) (hl : 1 ≤ l.length) (hl2 : l.length ≤ 4000) :
    chunk_Feed.l0 (k + 1) T i 1 (l.length : Int) line many body = chunk_Feed.l0 k T (i + l.length) 2 0 line (many + (l.length : Int)) (body ++ ⟨l.toArray⟩) := by
  have hlen := congrArg List.length hi
  rw [List.length_drop, List.length_append, size_data] at hlen
  have hlt : i < T.size := by omega
  have hmin : min (T.size - i) (l.length : Int).toNat = l.length := by omega
  have e : (T.extract i T.size).extract 0 l.length = ⟨l.toArray⟩ := H.ba_ext (by
    rw [ByteArray.data_extract, ByteArray.data_extract, Array.toList_extract, Array.toList_extract]
    simp only [List.extract_eq_take_drop, List.drop_zero, Nat.sub_zero]
    rw [hi, List.take_take, List.take_append_of_le_length (by omega), List.take_of_length_le (by omega)])
  rw [chunk_Feed.l0, if_pos hlt, if_neg (by decide), if_pos hm, if_pos rfl, if_pos (by omega), hmin, e, Int.toNat_natCast, Nat.sub_self, if_pos rfl]
  rfl
theorem chunk_data (n : Nat) (s : ByteArray) : (oneChunk n s).data.toList = H.hexL n ++ (13 :: 10 :: ((s.extract 0 n).data.toList ++ [13, 10])) := by
  unfold oneChunk
  simp [ByteArray.data_append, Array.toList_append]
theorem chunk_size (n : Nat) (s : ByteArray) (h : n ≤ s.size) : (oneChunk n s).size = (H.hexL n).length + n + 4 := by
  rw [← size_data, chunk_data]
  simp only [List.length_append, List.length_cons, List.length_nil]
  rw [size_data, ByteArray.size_extract]
  omega
/-- A whole chunk is read. -/
theorem feed_chunk {T : ByteArray} {many : Int} {body s : ByteArray} {n i : Nat} {r : List UInt8} (hi : T.data.toList.drop i = (oneChunk n s).data.toList ++ r) (h1 : 1 ≤ n) (h2 : n ≤ s.size) (hm : 0 ≤ many) (hn : (n : Int) ≤ 4000 - many) (hb : body.size ≤ 1000000) (k : Nat) (hk : 60 ≤ k) :
    chunk_Feed.l0 (k + 5 + (H.hexL n).length) T i 0 0 ⟨#[]⟩ many body = chunk_Feed.l0 k T (i + (oneChunk n s).size) 0 0 ⟨#[]⟩ (many + (n : Int)) (body ++ s.extract 0 n) := by
  obtain ⟨_, _, _, h10, hl3⟩ := hex_ok (n := n) (by omega)
  have hxl : (s.extract 0 n).data.toList.length = n := by rw [size_data, ByteArray.size_extract]; omega
  rw [chunk_data, List.append_assoc] at hi
  have hi1 := drop_app hi
  rw [List.cons_append, List.cons_append] at hi1
  have e0 : (⟨#[]⟩ : ByteArray) ++ (⟨(H.hexL n).toArray⟩ : ByteArray) = ⟨(H.hexL n).toArray⟩ := H.ba_ext (by rw [ByteArray.data_append]; simp)
  rw [run_line (by decide) (by decide) (by omega) (H.hexL n) ⟨#[]⟩ i (k + 5) _ hi h10 (by show 0 + _ ≤ _; omega), e0]
  have hz : (⟨(H.hexL n).toArray⟩ : ByteArray).size ≤ 190 := by rw [mk_size]; omega
  have hl := line_size n many hn hm (k + 3) (by omega)
  rw [if_neg (by omega)] at hl
  rw [show k + 5 = k + 3 + 2 by omega, end_line (by decide) (by decide) (by omega) hi1 hz hl]
  have hi2 := (at_drop (at_drop hi1).2.2).2.2
  rw [List.append_assoc] at hi2
  have ht := take_chunk (T := T) (many := many) (body := body) (line := ⟨#[]⟩) (by omega) hb (k := k + 2) hi2 (by omega) (by omega)
  rw [hxl] at ht
  have ex : (⟨(s.extract 0 n).data.toList.toArray⟩ : ByteArray) = s.extract 0 n := H.ba_ext (by simp)
  rw [ex] at ht
  rw [show k + 3 = k + 2 + 1 by omega, ht]
  have hi3 := drop_app hi2
  rw [hxl, List.cons_append, List.cons_append] at hi3
  rw [end_line (by decide) (by decide) (by omega) hi3 (by show 0 ≤ 190; omega) (line_gap 0 (many + (n : Int)) k)]
  rw [chunk_size n s h2]
  congr 1
  omega
def tailB : ByteArray := ⟨#[48, 13, 10, 13, 10]⟩
/-- The end is read. -/
theorem feed_tail {T : ByteArray} {many : Int} {body : ByteArray} {i : Nat} {r : List UInt8} (hi : T.data.toList.drop i = tailB.data.toList ++ r) (hm : 0 ≤ many) (hn : many ≤ 4000) (k : Nat) (hk : 60 ≤ k) :
    chunk_Feed.l0 (k + 6) T i 0 0 ⟨#[]⟩ many body = some (0, 4, 0, ⟨#[]⟩, many, i + 5, body) := by
  have hi0 : T.data.toList.drop i = [48] ++ (13 :: 10 :: 13 :: 10 :: r) := hi
  have hx : H.hexL 0 = [48] := by rw [H.hexL_one (by decide)]; rfl
  have hl := line_size 0 many (by omega) hm (k + 3) (by omega)
  rw [if_pos rfl, hx] at hl
  have e0 : (⟨#[]⟩ : ByteArray) ++ (⟨([48] : List UInt8).toArray⟩ : ByteArray) = ⟨([48] : List UInt8).toArray⟩ := H.ba_ext (by rw [ByteArray.data_append]; simp)
  have h1 := run_line (T := T) (st := 0) (left := 0) (many := many) (body := body) (by decide) (by decide) (by omega) [48] ⟨#[]⟩ i (k + 5) _ hi0 (by decide) (by decide)
  rw [e0] at h1
  have hi1 := drop_app hi0
  have h2 := end_line (T := T) (body := body) (k := k + 3) (by decide) (by decide) (by omega) hi1 (by decide) hl
  have hi2 := (at_drop (at_drop hi1).2.2).2.2
  have h3 := end_line (T := T) (body := body) (st := 3) (left := 0) (many := many) (k := k + 1) (line := ⟨#[]⟩) (by decide) (by decide) (by omega) hi2 (by decide) (line_end 0 many (k + 1))
  have h1' : chunk_Feed.l0 (k + 6) T i 0 0 ⟨#[]⟩ many body = chunk_Feed.l0 (k + 5) T (i + 1) 0 0 ⟨([48] : List UInt8).toArray⟩ many body := h1
  have h2' : chunk_Feed.l0 (k + 3 + 2) T (i + 1) 0 0 ⟨([48] : List UInt8).toArray⟩ many body = chunk_Feed.l0 (k + 1 + 2) T (i + 1 + 2) 3 0 ⟨#[]⟩ many body := h2
  have h3' : chunk_Feed.l0 (k + 1 + 2) T (i + 1 + 2) 3 0 ⟨#[]⟩ many body = chunk_Feed.l0 (k + 1) T (i + 1 + 2 + 2) 4 0 ⟨#[]⟩ many body := h3
  rw [h1', show k + 5 = k + 3 + 2 by omega, h2', h3', show i + 1 + 2 + 2 = i + 5 by omega]
  rw [chunk_Feed.l0]
  by_cases h : i + 5 < T.size
  · rw [if_pos h, if_pos rfl]
  · rw [if_neg h]
theorem extract_parts (s : ByteArray) (n : Nat) (h : n ≤ s.size) : s.extract 0 n ++ s.extract n s.size = s := H.ba_ext (by
  rw [ByteArray.data_append, Array.toList_append, ByteArray.data_extract, ByteArray.data_extract, Array.toList_extract, Array.toList_extract]
  simp only [List.extract_eq_take_drop, List.drop_zero, Nat.sub_zero]
  rw [List.take_of_length_le (l := s.data.toList.drop n) (by rw [List.length_drop, size_data]; omega), List.take_append_drop])
/-- What is encoded, and that it is read back. -/
theorem enc_feed (size : Int) (hsz : 1 ≤ size ∧ size ≤ 4000) : ∀ (m : Nat) (s out : ByteArray), s.size ≤ m → s.size ≤ 4000 → out.size + 30 * s.size ≤ 900000 →
    ∃ c : ByteArray, (∀ k, m + 1 ≤ k → chunk_Encode.l0 k size s out = some (out ++ c)) ∧ c.size ≤ 30 * s.size + 5 ∧
      ∀ (T : ByteArray) (i : Nat) (r : List UInt8) (many : Int) (body : ByteArray), T.data.toList.drop i = c.data.toList ++ r → 0 ≤ many → many + s.size ≤ 4000 → body.size + s.size ≤ 10000 →
        ∀ k, 100 + 40 * s.size ≤ k → chunk_Feed.l0 k T i 0 0 ⟨#[]⟩ many body = some (0, 4, 0, ⟨#[]⟩, many + s.size, i + c.size, body ++ s)
  | m, s, out, hm, h4, ho => by
    by_cases h0 : s.size = 0
    · have es : s = ⟨#[]⟩ := H.ba_ext (by
        have : s.data.toList.length = 0 := by rw [size_data]; exact h0
        simpa using List.eq_nil_of_length_eq_zero this)
      refine ⟨tailB, fun k hk => ?_, by rw [h0]; decide, fun T i r many body hi hm0 hm1 hb k hk => ?_⟩
      · obtain ⟨k, rfl⟩ : ∃ j, k = j + 1 := ⟨k - 1, by omega⟩
        rw [chunk_Encode.l0, if_neg (by omega), if_pos (by omega)]
        rfl
      · obtain ⟨k, rfl⟩ : ∃ j, k = j + 6 := ⟨k - 6, by omega⟩
        rw [feed_tail hi hm0 (by omega) k (by omega), h0, es]
        have e : body ++ (⟨#[]⟩ : ByteArray) = body := H.ba_ext (by rw [ByteArray.data_append]; simp)
        rw [e]
        simp
        rfl
    · match m, hm with
      | 0, hm => omega
      | m + 1, hm =>
      obtain ⟨n, hn⟩ : ∃ n, n = min size.toNat s.size := ⟨_, rfl⟩
      have hn1 : 1 ≤ n ∧ n ≤ s.size := by omega
      have hs' : (s.extract n s.size).size = s.size - n := by rw [ByteArray.size_extract]; omega
      obtain ⟨_, _, _, _, hl3⟩ := hex_ok (n := n) (by omega)
      have hcs := chunk_size n s hn1.2
      obtain ⟨c, g1, g2, g3⟩ := enc_feed size hsz m (s.extract n s.size) (out ++ oneChunk n s) (by omega) (by omega) (by rw [ByteArray.size_append]; omega)
      refine ⟨oneChunk n s ++ c, fun k hk => ?_, by rw [ByteArray.size_append]; omega, fun T i r many body hi hm0 hm1 hb k hk => ?_⟩
      · obtain ⟨k, rfl⟩ : ∃ j, k = j + 1 := ⟨k - 1, by omega⟩
        rw [chunk_Encode.l0, if_pos (by omega), if_pos (by omega), ← hn, g1 k (by omega), ByteArray.append_assoc]
      · rw [ByteArray.data_append, Array.toList_append, List.append_assoc] at hi
        obtain ⟨k, rfl⟩ : ∃ j, k = j + 5 + (H.hexL n).length := ⟨k - 5 - (H.hexL n).length, by omega⟩
        rw [feed_chunk hi hn1.1 hn1.2 hm0 (by omega) (by omega) k (by omega)]
        have hi2 := drop_app hi
        rw [size_data] at hi2
        rw [g3 T (i + (oneChunk n s).size) r (many + (n : Int)) (body ++ s.extract 0 n) hi2 (by omega) (by omega) (by rw [ByteArray.size_append, ByteArray.size_extract]; omega) k (by omega)]
        have e1 : (body ++ s.extract 0 n) ++ s.extract n s.size = body ++ s := by rw [ByteArray.append_assoc, extract_parts s n hn1.2]
        have e2 : many + (n : Int) + ((s.extract n s.size).size : Int) = many + (s.size : Int) := by omega
        have e3 : i + (oneChunk n s).size + c.size = i + (oneChunk n s ++ c).size := by rw [ByteArray.size_append]; omega
        rw [e1, e2, e3]
end Go.Proofs.YthemlbefkdmegaaDoor.P
