/- Several parts together: Chunks read byte by byte: the plain model, and that chunk.Feed comes to it; plain Lean, no program; chunk.Feed comes to the byte-wise model; plain Lean, no program; The byte-wise model: parts and whole; chunk.Feed at states that are come to; plain Lean, no program; The law ChunkSplit answers true; plain Lean, no program; The law ChunkSplit answers true: the loop over pieces; plain Lean, no program. -/
import Derived.Test.YthemlbefkdmegaaDoorRB
import Derived.Test.YthemlbefkdmegaaDoorPx14
import Derived.Test.YthemlbefkdmegaaDoorPx20
namespace Go.Proofs.YthemlbefkdmegaaDoor.P
open Go.RowKit Go.Proofs.YthemlbefkdmegaaDoorW.PrintWords Go.Proofs.YthemlbefkdmegaaDoorW.PrintLast Go.Proofs.YthemlbefkdmegaaDoorW.PrintMore
structure Ck where
  st : Int
  left : Int
  line : ByteArray
  many : Int
/-- A state that is come to: B bounds what may still be read and has been. -/
structure Inv (B : Int) (c : Ck) : Prop where
  s0 : 0 ≤ c.st
  s4 : c.st ≤ 4
  l0 : 0 ≤ c.left
  m0 : 0 ≤ c.many
  sum : c.left + c.many ≤ B
  one : c.st = 1 ↔ 0 < c.left
  line : c.line.size ≤ 200
  none : c.st = 1 ∨ c.st = 4 → c.line = ⟨#[]⟩
theorem inv_of {B st left many : Int} {line : ByteArray} (a : 0 ≤ st) (b : st ≤ 4) (c : 0 ≤ left) (d : 0 ≤ many) (e : left + many ≤ B) (f : st = 1 ↔ 0 < left) (g : line.size ≤ 200) (h : st = 1 ∨ st = 4 → line = ⟨#[]⟩) : Inv B ⟨st, left, line, many⟩ := ⟨a, b, c, d, e, f, g, h⟩
theorem field_total (s : ByteArray) (h : s.size ≤ 9223372036854775806) (k : Nat) : ∃ r, field_Parse.f (k + 1) s = some r := by
  have h1 := Sp.cutL_length 58 s.data.toList
  have h2 := Sp.cutR_length 58 s.data.toList
  have h3 := Sp.trim_length (Sp.cutR 58 s.data.toList)
  rw [size_data] at h1 h2
  unfold field_Parse.f strings_Cut.f
  rw [if_pos h, Option.bind_some]
  dsimp only
  rw [trim_f (by rw [mk_size]; show (Sp.cutR 58 s.data.toList).length ≤ _; omega), Option.bind_some]
  have hj : ∀ (x : Bool) (a b : ByteArray), ∃ r, field_Parse.j0 (k + 1) x a b = some r := fun x a b => by
    rw [field_Parse.j0]
    split
    · exact ⟨_, rfl⟩
    · exact ⟨_, rfl⟩
  split
  · rw [name_f (by rw [mk_size]; show (Sp.cutL 58 s.data.toList).length ≤ _; omega), Option.bind_some]
    split
    · rw [value_f (by rw [mk_size]; show (Sp.trim (Sp.cutR 58 s.data.toList)).length ≤ _; omega), Option.bind_some]
      exact hj _ _ _
    · exact hj _ _ _
  · exact hj _ _ _
theorem numX_ge : ∀ (l : List UInt8) (n m : Int), l.all isHex = true → 0 ≤ n → numX l n = some m → 0 ≤ m
  | [], n, m, _, h, e => by
    injection e with e
    omega
  | c :: l, n, m, ha, h, e => by
    rw [List.all_cons, Bool.and_eq_true] at ha
    have := (digX_yes ha.1).1
    rw [numX] at e
    split at e
    · exact numX_ge l _ m ha.2 (by omega) e
    · cases e
theorem parseX_ge (l : List UInt8) : 0 ≤ (parseX l).1 := by
  unfold parseX
  split
  · decide
  · split
    · rename_i h
      cases e : numX l 0 with
      | none => decide
      | some m => exact numX_ge l 0 m h (by decide) e
    · decide
/-- A whole line comes to something; and to a state that is come to, if it is no error. -/
theorem line_total (B : Int) (hB : 4000 ≤ B) (st left many : Int) (s : ByteArray) (hs : s.size ≤ 1000) (h0 : st = 0 ∨ st = 2 ∨ st = 3) (hl : left = 0) (hm : 0 ≤ many ∧ many ≤ B) :
    ∃ e s' l', chunk_line.f 4000 st left many s = some (e, s', l') ∧ (e = 0 → Inv B ⟨s', l', ⟨#[]⟩, many⟩) := by
  subst hl
  rcases h0 with rfl | rfl | rfl
  · have h1 := Sp.cutL_length 59 s.data.toList
    have h3 := Sp.trim_length (Sp.cutL 59 s.data.toList)
    rw [size_data] at h1
    have e2 : ∃ e n, chunk_size.f 4000 many s = some (e, n) ∧ (e = 0 → 0 ≤ n ∧ n ≤ 4000 - many) := by
      unfold chunk_size.f strings_Cut.f
      rw [if_pos (by omega), Option.bind_some]
      dsimp only
      rw [trim_f (by rw [mk_size]; omega), Option.bind_some, Parse_evx _ (by rw [mk_size]; show (Sp.trim (Sp.cutL 59 s.data.toList)).length ≤ _; omega) _ (by rw [mk_size]; show 2 * (Sp.trim (Sp.cutL 59 s.data.toList)).length + 40 ≤ _; omega), Option.bind_some]
      have hg := parseX_ge (Sp.trim (Sp.cutL 59 s.data.toList))
      split
      · exact ⟨_, _, rfl, fun h => absurd h (by decide)⟩
      · split
        · split
          · exact ⟨_, _, rfl, fun h => absurd h (by decide)⟩
          · rename_i h
            exact ⟨_, _, rfl, fun _ => ⟨hg, by omega⟩⟩
        · exact ⟨_, _, rfl, fun h => absurd h (by decide)⟩
    obtain ⟨e, n, e3, e4⟩ := e2
    refine ⟨e, if n = 0 then 3 else 1, if n = 0 then 0 else n, ?_, fun h => ?_⟩
    · unfold chunk_line.f
      rw [if_pos rfl, e3, Option.bind_some]
    · have := e4 h
      by_cases hn : n = 0
      · rw [if_pos hn, if_pos hn]
        exact inv_of (by decide) (by decide) (by decide) hm.1 (by omega) (by decide) (by decide) (fun _ => rfl)
      · rw [if_neg hn, if_neg hn]
        exact inv_of (by decide) (by decide) this.1 hm.1 (by omega) (by omega) (by decide) (fun _ => rfl)
  · unfold chunk_line.f
    rw [if_neg (by decide), if_pos rfl]
    split
    · exact ⟨_, _, _, rfl, fun _ => inv_of (by decide) (by decide) (by decide) hm.1 (by omega) (by decide) (by decide) (fun _ => rfl)⟩
    · exact ⟨_, _, _, rfl, fun h => absurd h (by decide)⟩
  · unfold chunk_line.f
    rw [if_neg (by decide), if_neg (by decide), if_pos rfl]
    split
    · exact ⟨_, _, _, rfl, fun _ => inv_of (by decide) (by decide) (by decide) hm.1 (by omega) (by decide) (by decide) (fun _ => rfl)⟩
    · obtain ⟨r, hr⟩ := field_total s (by omega) 3999
      rw [hr, Option.bind_some]
      exact ⟨_, _, _, rfl, fun _ => inv_of (by decide) (by decide) (by decide) hm.1 (by omega) (by decide) (by decide) (fun _ => rfl)⟩
theorem cutB_size (l : ByteArray) : (cutB l).size ≤ l.size := by
  unfold cutB Lib.trimSuffix
  rw [mk_size, ← size_data l]
  split
  · rw [List.length_take]; omega
  · exact Nat.le_refl _
theorem one_total (B : Int) (hB : 4000 ≤ B) (c : Ck) (h : Inv B c) (h1 : c.st ≠ 1) (h4 : c.st ≠ 4) (b : UInt8) :
    ∃ e s' l' li, chunk_one.f 4000 c.st c.left c.line c.many b = some (e, s', l', li) ∧ (e = 0 → Inv B ⟨s', l', li, c.many⟩) := by
  have hl : c.left = 0 := by
    have := h.one
    have := h.l0
    omega
  have hs := byte_size c.line b
  have hli := h.line
  have h0 : c.st = 0 ∨ c.st = 2 ∨ c.st = 3 := by
    have := h.s0
    have := h.s4
    omega
  unfold chunk_one.f
  rw [if_pos (by omega)]
  cases he : endB (c.line ++ byteB b) with
  | true =>
    rw [if_pos rfl]
    have hc := cutB_size (c.line ++ byteB b)
    obtain ⟨e, s', l', e1, e2⟩ := line_total B hB c.st c.left c.many (cutB (c.line ++ byteB b)) (by omega) h0 hl ⟨h.m0, by have := h.sum; have := h.l0; omega⟩
    rw [e1, Option.bind_some]
    exact ⟨e, s', l', _, rfl, e2⟩
  | false =>
    rw [if_neg (by decide)]
    split
    · exact ⟨_, _, _, _, rfl, fun h => absurd h (by decide)⟩
    · exact ⟨_, _, _, _, rfl, fun _ => inv_of h.s0 h.s4 h.l0 h.m0 h.sum h.one (by omega) (fun x => by rcases x with x | x; exact absurd x h1; exact absurd x h4)⟩
/-- A byte. -/
def stepB (c : Ck) (b : UInt8) : Int × Ck :=
  if c.st = 1 then (0, ⟨if c.left = 1 then 2 else 1, c.left - 1, c.line, c.many + 1⟩)
  else match chunk_one.f 4000 c.st c.left c.line c.many b with
    | some p => (p.1, ⟨p.2.1, p.2.2.1, p.2.2.2, c.many⟩)
    | none => (99, c)
theorem step_inv {B : Int} (hB : 4000 ≤ B) {c : Ck} (h : Inv B c) (h4 : c.st ≠ 4) (b : UInt8) (h0 : (stepB c b).1 = 0) : Inv B (stepB c b).2 := by
  unfold stepB at h0 ⊢
  by_cases h1 : c.st = 1
  · rw [if_pos h1]
    have hl := h.one.1 h1
    have := h.m0
    have := h.sum
    by_cases hc : c.left = 1
    · rw [if_pos hc]
      exact inv_of (by decide) (by decide) (by omega) (by omega) (by omega) (by omega) h.line (fun x => h.none (.inl h1))
    · rw [if_neg hc]
      exact inv_of (by decide) (by decide) (by omega) (by omega) (by omega) (by omega) h.line (fun x => h.none (.inl h1))
  · rw [if_neg h1] at h0 ⊢
    obtain ⟨e, s', l', li, e1, e2⟩ := one_total B hB c h h1 h4 b
    rw [e1] at h0 ⊢
    exact e2 h0
/-- Bytes: the error, the state, how many were read, and what of them is the body. -/
def feedL : List UInt8 → Ck → Int × Ck × Nat × List UInt8
  | [], c => (0, c, 0, [])
  | b :: l, c => if c.st = 4 then (0, c, 0, []) else
    if (stepB c b).1 = 0 then ((feedL l (stepB c b).2).1, (feedL l (stepB c b).2).2.1, (feedL l (stepB c b).2).2.2.1 + 1, (if c.st = 1 then [b] else []) ++ (feedL l (stepB c b).2).2.2.2)
    else ((stepB c b).1, c, 0, [])
theorem feedL_four (l : List UInt8) (c : Ck) (h : c.st = 4) : feedL l c = (0, c, 0, []) := by
  cases l with
  | nil => rfl
  | cons b l => rw [feedL, if_pos h]
theorem feedL_take : ∀ (l r : List UInt8) (left many : Int) (line : ByteArray), (l.length : Int) ≤ left → l ≠ [] →
    feedL (l ++ r) ⟨1, left, line, many⟩ = ((feedL r ⟨if left = l.length then 2 else 1, left - l.length, line, many + l.length⟩).1, (feedL r ⟨if left = l.length then 2 else 1, left - l.length, line, many + l.length⟩).2.1, (feedL r ⟨if left = l.length then 2 else 1, left - l.length, line, many + l.length⟩).2.2.1 + l.length, l ++ (feedL r ⟨if left = l.length then 2 else 1, left - l.length, line, many + l.length⟩).2.2.2)
  | [], _, _, _, _, _, h => absurd rfl h
  | [b], r, left, many, line, h, _ => by
    rw [List.cons_append, List.nil_append, feedL, if_neg (show ¬ ((1 : Int) = 4) by decide)]
    have e : stepB ⟨1, left, line, many⟩ b = (0, ⟨if left = 1 then 2 else 1, left - 1, line, many + 1⟩) := by unfold stepB; rw [if_pos rfl]
    rw [e, if_pos rfl, if_pos rfl]
    rfl
  | b :: b2 :: l, r, left, many, line, h, _ => by
    rw [List.length_cons, List.length_cons] at h
    rw [List.cons_append, feedL, if_neg (show ¬ ((1 : Int) = 4) by decide)]
    have e : stepB ⟨1, left, line, many⟩ b = (0, ⟨1, left - 1, line, many + 1⟩) := by unfold stepB; rw [if_pos rfl, if_neg (show ¬ (left = 1) by omega)]
    rw [e, if_pos rfl, if_pos rfl]
    have ih := feedL_take (b2 :: l) r (left - 1) (many + 1) line (by rw [List.length_cons]; omega) (by simp)
    have e1 : left - 1 - ((b2 :: l).length : Int) = left - ((b :: b2 :: l).length : Int) := by rw [List.length_cons, List.length_cons, List.length_cons]; omega
    have e2 : many + 1 + ((b2 :: l).length : Int) = many + ((b :: b2 :: l).length : Int) := by rw [List.length_cons, List.length_cons, List.length_cons]; omega
    have e3 : (if left - 1 = ((b2 :: l).length : Int) then (2 : Int) else 1) = if left = ((b :: b2 :: l).length : Int) then 2 else 1 := by
      have hx : ((b :: b2 :: l).length : Int) = ((b2 :: l).length : Int) + 1 := rfl
      rw [hx]
      by_cases hc : left = ((b2 :: l).length : Int) + 1
      · rw [if_pos hc, if_pos (by omega)]
      · rw [if_neg hc, if_neg (by omega)]
    rw [e1, e2, e3] at ih
    show ((feedL (b2 :: l ++ r) ⟨1, left - 1, line, many + 1⟩).1, (feedL (b2 :: l ++ r) ⟨1, left - 1, line, many + 1⟩).2.1, (feedL (b2 :: l ++ r) ⟨1, left - 1, line, many + 1⟩).2.2.1 + 1, [b] ++ (feedL (b2 :: l ++ r) ⟨1, left - 1, line, many + 1⟩).2.2.2) = _
    rw [ih]
    rfl
end Go.Proofs.YthemlbefkdmegaaDoor.P
namespace Go.Proofs.YthemlbefkdmegaaDoor.P
open Go.RowKit Go.Proofs.YthemlbefkdmegaaDoorW.PrintWords Go.Proofs.YthemlbefkdmegaaDoorW.PrintLast Go.Proofs.YthemlbefkdmegaaDoorW.PrintMore
theorem app_nil (b : ByteArray) : b ++ (⟨([] : List UInt8).toArray⟩ : ByteArray) = b := H.ba_ext (by rw [ByteArray.data_append]; simp)
theorem app_two (b : ByteArray) (l m : List UInt8) : (b ++ (⟨l.toArray⟩ : ByteArray)) ++ (⟨m.toArray⟩ : ByteArray) = b ++ ⟨(l ++ m).toArray⟩ := H.ba_ext (by simp [ByteArray.data_append])
def feedR (i : Nat) (body : ByteArray) (q : Int × Ck × Nat × List UInt8) : Int × Int × Int × ByteArray × Int × Nat × ByteArray := (0, q.2.1.st, q.2.1.left, q.2.1.line, q.2.1.many, i + q.2.2.1, body ++ ⟨q.2.2.2.toArray⟩)
theorem feed_eq (B : Int) (hB : 4000 ≤ B) (hB2 : B ≤ 100000) (T : ByteArray) (hT : T.size ≤ 1000000) (d : Nat) : ∀ (i k : Nat) (c : Ck) (body : ByteArray), T.size - i ≤ d → i ≤ T.size → Inv B c → body.size + (T.size - i) ≤ 2000000 → 4000 + d + 1 ≤ k →
    ∃ r, chunk_Feed.l0 k T i c.st c.left c.line c.many body = some r ∧ r.1 = (feedL (T.data.toList.drop i) c).1 ∧ (r.1 = 0 → r = feedR i body (feedL (T.data.toList.drop i) c)) := by
  induction d with
  | zero =>
    intro i k c body hd hi hv hb hk
    obtain ⟨k, rfl⟩ : ∃ j, k = j + 1 := ⟨k - 1, by omega⟩
    rw [chunk_Feed.l0, if_neg (by omega), List.drop_of_length_le (by rw [size_data]; omega)]
    refine ⟨_, rfl, rfl, fun _ => ?_⟩
    unfold feedR
    rw [feedL, app_nil]
    rfl
  | succ d ih =>
    intro i k c body hd hi hv hb hk
    obtain ⟨k, rfl⟩ : ∃ j, k = j + 1 := ⟨k - 1, by omega⟩
    by_cases hlt : i < T.size
    · by_cases h4 : c.st = 4
      · rw [chunk_Feed.l0, if_pos hlt, if_pos h4, feedL_four _ c h4]
        refine ⟨_, rfl, rfl, fun _ => ?_⟩
        unfold feedR
        rw [app_nil]
        rfl
      · have hm : 0 ≤ c.many ∧ c.many ≤ 1000000 := ⟨hv.m0, by have := hv.sum; have := hv.l0; omega⟩
        by_cases h1 : c.st = 1
        · have hl1 := hv.one.1 h1
          have hsum := hv.sum
          obtain ⟨lf, hlf⟩ : ∃ lf : Nat, c.left = lf := ⟨c.left.toNat, by omega⟩
          obtain ⟨n, hn⟩ : ∃ n, n = min (T.size - i) lf := ⟨_, rfl⟩
          have hn1 : 1 ≤ n ∧ n ≤ T.size - i ∧ n ≤ lf := by omega
          have hll : ((T.data.toList.drop i).take n).length = n := by rw [List.length_take, List.length_drop, size_data]; omega
          have hsp : T.data.toList.drop i = (T.data.toList.drop i).take n ++ T.data.toList.drop (i + n) := by rw [← List.drop_drop, List.take_append_drop]
          have hex : (T.extract i T.size).extract 0 n = ⟨((T.data.toList.drop i).take n).toArray⟩ := H.ba_ext (by
            rw [ByteArray.data_extract, ByteArray.data_extract, Array.toList_extract, Array.toList_extract]
            simp only [List.extract_eq_take_drop, List.drop_zero, Nat.sub_zero]
            rw [List.take_of_length_le (l := T.data.toList.drop i) (by rw [List.length_drop, size_data]; omega)])
          have hexs : (⟨((T.data.toList.drop i).take n).toArray⟩ : ByteArray).size = n := by rw [mk_size, hll]
          have hst : (if lf - n = 0 then (2 : Int) else c.st) = if (lf : Int) = (n : Int) then 2 else 1 := by
            rw [h1]
            by_cases hc : lf = n
            · rw [if_pos (by omega), if_pos (by omega)]
            · rw [if_neg (by omega), if_neg (by omega)]
          have hle : ((lf - n : Nat) : Int) = (lf : Int) - (n : Int) := by omega
          have hinv : Inv B ⟨if (lf : Int) = (n : Int) then 2 else 1, (lf : Int) - (n : Int), c.line, c.many + (n : Int)⟩ := by
            by_cases hc : (lf : Int) = (n : Int)
            · rw [if_pos hc]
              exact inv_of (by decide) (by decide) (by omega) (by omega) (by omega) (by omega) hv.line (fun _ => hv.none (.inl h1))
            · rw [if_neg hc]
              exact inv_of (by decide) (by decide) (by omega) (by omega) (by omega) (by omega) hv.line (fun _ => hv.none (.inl h1))
          obtain ⟨r, r1, r2, r3⟩ := ih (i + n) k ⟨if (lf : Int) = (n : Int) then 2 else 1, (lf : Int) - (n : Int), c.line, c.many + (n : Int)⟩ (body ++ ⟨((T.data.toList.drop i).take n).toArray⟩) (by omega) (by omega) hinv (by rw [ByteArray.size_append, hexs]; omega) (by omega)
          have hft := feedL_take ((T.data.toList.drop i).take n) (T.data.toList.drop (i + n)) (lf : Int) c.many c.line (by rw [hll]; omega) (fun e => by rw [e] at hll; simp at hll; omega)
          rw [← hsp, hll] at hft
          have hc : c = ⟨1, (lf : Int), c.line, c.many⟩ := by rw [← h1, ← hlf]
          have hF : feedL (T.data.toList.drop i) c = feedL (T.data.toList.drop i) ⟨1, (lf : Int), c.line, c.many⟩ := by rw [← hc]
          rw [hF, hft]
          refine ⟨r, ?_, r2, fun h => ?_⟩
          · rw [chunk_Feed.l0, if_pos hlt, if_neg h4, if_pos hm, if_pos h1, if_pos (by omega), hlf, Int.toNat_natCast, ← hn, hex, hst, hle]
            exact r1
          · rw [r3 h]
            unfold feedR
            dsimp only
            rw [app_two]
            congr 6
            omega
        · obtain ⟨e, s', l', li, e1, e2⟩ := one_total B hB c hv h1 h4 (T.data.toList.getD i 0)
          have e1' : chunk_one.f k c.st c.left c.line c.many (T.data.toList.getD i 0) = some (e, s', l', li) := at_rounds (chunk_one.mono _ _ _ _ _) (by omega) e1
          have hd1 : T.data.toList.drop i = T.data.toList.getD i 0 :: T.data.toList.drop (i + 1) := by
            have hlt' : i < T.data.toList.length := by rw [size_data]; exact hlt
            rw [List.drop_eq_getElem_cons hlt', List.getD_eq_getElem?_getD, List.getElem?_eq_getElem hlt', Option.getD_some]
          have hsb : stepB c (T.data.toList.getD i 0) = (e, ⟨s', l', li, c.many⟩) := by
            unfold stepB
            rw [if_neg h1, e1]
          by_cases he : e = 0
          · obtain ⟨r, r1, r2, r3⟩ := ih (i + 1) k ⟨s', l', li, c.many⟩ body (by omega) (by omega) (e2 he) (by omega) (by omega)
            refine ⟨r, ?_, ?_, fun h => ?_⟩
            · rw [chunk_Feed.l0, if_pos hlt, if_neg h4, if_pos hm, if_neg h1, e1', Option.bind_some, if_pos he]
              exact r1
            · rw [hd1, feedL, if_neg h4, hsb, if_pos he]
              exact r2
            · rw [r3 h, hd1, feedL, if_neg h4, hsb, if_pos he, if_neg h1]
              unfold feedR
              dsimp only
              rw [List.nil_append]
              congr 6
              omega
          · refine ⟨(e, c.st, c.left, c.line, c.many, i, body), ?_, ?_, fun h => absurd h he⟩
            · rw [chunk_Feed.l0, if_pos hlt, if_neg h4, if_pos hm, if_neg h1, e1', Option.bind_some, if_neg he]
            · rw [hd1, feedL, if_neg h4, hsb, if_neg he]
    · rw [chunk_Feed.l0, if_neg hlt, List.drop_of_length_le (by rw [size_data]; omega)]
      refine ⟨_, rfl, rfl, fun _ => ?_⟩
      unfold feedR
      rw [feedL, app_nil]
      rfl
end Go.Proofs.YthemlbefkdmegaaDoor.P
namespace Go.Proofs.YthemlbefkdmegaaDoor.P
open Go.RowKit Go.Proofs.YthemlbefkdmegaaDoorW.PrintWords Go.Proofs.YthemlbefkdmegaaDoorW.PrintLast Go.Proofs.YthemlbefkdmegaaDoorW.PrintMore
theorem feedL_inv {B : Int} (hB : 4000 ≤ B) : ∀ (l : List UInt8) (c : Ck), Inv B c → (feedL l c).1 = 0 → Inv B (feedL l c).2.1 ∧ (feedL l c).2.2.1 ≤ l.length ∧ ((feedL l c).2.2.1 < l.length → (feedL l c).2.1.st = 4) ∧ (feedL l c).2.2.2.length ≤ l.length ∧ (l ≠ [] → c.st ≠ 4 → 1 ≤ (feedL l c).2.2.1)
  | [], c, h, h0 => ⟨h, Nat.le_refl _, fun h => absurd h (by simp [feedL]), Nat.le_refl _, fun h => absurd rfl h⟩
  | b :: l, c, h, h0 => by
    rw [feedL] at h0 ⊢
    by_cases h4 : c.st = 4
    · rw [if_pos h4] at h0 ⊢
      exact ⟨h, Nat.zero_le _, fun _ => h4, Nat.zero_le _, fun _ h => absurd h4 h⟩
    · rw [if_neg h4] at h0 ⊢
      by_cases he : (stepB c b).1 = 0
      · rw [if_pos he] at h0 ⊢
        obtain ⟨a1, a2, a3, a4, _⟩ := feedL_inv hB l (stepB c b).2 (step_inv hB h h4 b he) h0
        refine ⟨a1, ?_, fun hl => a3 ?_, ?_, fun _ _ => ?_⟩
        · show _ + 1 ≤ _
          rw [List.length_cons]; omega
        · have hl' : (feedL l (stepB c b).2).2.2.1 + 1 < (b :: l).length := hl
          rw [List.length_cons] at hl'; omega
        · show ((if c.st = 1 then [b] else []) ++ _).length ≤ _
          rw [List.length_append, List.length_cons]
          have : (if c.st = 1 then [b] else ([] : List UInt8)).length ≤ 1 := by split <;> simp
          omega
        · show 1 ≤ _ + 1
          omega
      · rw [if_neg he] at h0
        exact absurd h0 he
theorem feedL_err : ∀ (l r : List UInt8) (c : Ck), (feedL l c).1 ≠ 0 → (feedL (l ++ r) c).1 = (feedL l c).1
  | [], r, c, h => absurd rfl h
  | b :: l, r, c, h => by
    rw [List.cons_append]
    rw [feedL] at h ⊢
    rw [feedL]
    by_cases h4 : c.st = 4
    · rw [if_pos h4] at h; exact absurd rfl h
    · rw [if_neg h4] at h ⊢
      rw [if_neg h4]
      by_cases he : (stepB c b).1 = 0
      · rw [if_pos he] at h ⊢
        rw [if_pos he]
        exact feedL_err l r _ h
      · rw [if_neg he, if_neg he]
theorem feedL_app : ∀ (l r : List UInt8) (c : Ck), (feedL l c).1 = 0 → feedL (l ++ r) c = ((feedL (r.drop 0 |> fun r => if (feedL l c).2.2.1 = l.length then r else []) (feedL l c).2.1).1, (feedL (if (feedL l c).2.2.1 = l.length then r else []) (feedL l c).2.1).2.1, (feedL l c).2.2.1 + (feedL (if (feedL l c).2.2.1 = l.length then r else []) (feedL l c).2.1).2.2.1, (feedL l c).2.2.2 ++ (feedL (if (feedL l c).2.2.1 = l.length then r else []) (feedL l c).2.1).2.2.2)
  | [], r, c, h => by
    show feedL r c = _
    have e : (feedL [] c).2.2.1 = ([] : List UInt8).length := rfl
    simp only [List.drop_zero, e, if_true]
    show feedL r c = ((feedL r c).1, (feedL r c).2.1, 0 + (feedL r c).2.2.1, [] ++ (feedL r c).2.2.2)
    rw [Nat.zero_add, List.nil_append]
  | b :: l, r, c, h => by
    rw [List.cons_append, feedL]
    rw [feedL] at h
    by_cases h4 : c.st = 4
    · rw [if_pos h4]
      have e : feedL (b :: l) c = (0, c, 0, []) := feedL_four _ _ h4
      rw [e]
      simp only [List.drop_zero, List.length_cons]
      rw [if_neg (by omega)]
      rfl
    · rw [if_neg h4] at h ⊢
      by_cases he : (stepB c b).1 = 0
      · rw [if_pos he] at h ⊢
        have e : feedL (b :: l) c = ((feedL l (stepB c b).2).1, (feedL l (stepB c b).2).2.1, (feedL l (stepB c b).2).2.2.1 + 1, (if c.st = 1 then [b] else []) ++ (feedL l (stepB c b).2).2.2.2) := by rw [feedL, if_neg h4, if_pos he]
        have ih := feedL_app l r (stepB c b).2 h
        simp only [List.drop_zero] at ih ⊢
        rw [ih, e]
        dsimp only
        have hc : ((feedL l (stepB c b).2).2.2.1 + 1 = (b :: l).length) = ((feedL l (stepB c b).2).2.2.1 = l.length) := by rw [List.length_cons]; simp
        simp only [hc]
        rw [List.append_assoc]
        congr 3
        omega
      · rw [if_neg he] at h
        exact absurd h he
theorem right_inv {c : Ck} (h : Inv 4000 c) (k : Nat) (hk : 10 ≤ k) : chunk_Right.f k c.st c.left c.line c.many = some true := by
  obtain ⟨k, rfl⟩ : ∃ j, k = j + 2 := ⟨k - 2, by omega⟩
  have h1 := h.s0
  have h2 := h.s4
  have h3 := h.l0
  have h4 := h.m0
  have h5 := h.sum
  have h6 := h.one
  have h7 := h.line
  have h8 := h.none
  have hj : ∀ x : Bool, (x = false → c.line = ⟨#[]⟩) → chunk_Right.j0 (k + 2) x c.st c.left c.line c.many = some true := fun x hx => by
    rw [chunk_Right.j0, if_neg (by omega), if_neg (by omega), if_neg (by omega), if_neg (by omega), if_neg (by omega), if_neg (by omega), decide_eq_false (by omega), chunk_Right.j1, if_neg (by decide)]
    have he : ((c.st == 1) == decide (c.left > 0)) = true := by
      by_cases hc : c.st = 1
      · rw [beq_iff_eq, decide_eq_true (h6.1 hc), beq_iff_eq]; exact hc
      · rw [beq_iff_eq, decide_eq_false (fun e => hc (h6.2 e)), beq_eq_false_iff_ne]; exact hc
    rw [if_pos he]
    cases x with
    | true => rfl
    | false =>
      rw [if_neg (by decide), hx rfl, empty_list]
      rfl
  unfold chunk_Right.f
  by_cases hc : c.st = 1
  · rw [if_pos hc]
    exact hj false (fun _ => h8 (.inl hc))
  · rw [if_neg hc]
    refine hj _ (fun e => h8 (.inr ?_))
    simpa using e
/-- chunk.Feed at a state that is come to. -/
theorem feed_f {c : Ck} (h : Inv 4000 c) (T : ByteArray) (hT : T.size ≤ 1000000) (k : Nat) (hk : T.size + 4100 ≤ k) :
    chunk_Feed.f k c.st c.left c.line c.many T = some (if (feedL T.data.toList c).1 = 0 then ((feedL T.data.toList c).2.1.st, (feedL T.data.toList c).2.1.left, (feedL T.data.toList c).2.1.line, (feedL T.data.toList c).2.1.many, ((feedL T.data.toList c).2.2.1 : Int), ⟨(feedL T.data.toList c).2.2.2.toArray⟩, 0) else (c.st, c.left, c.line, c.many, 0, ⟨#[]⟩, (feedL T.data.toList c).1)) := by
  obtain ⟨r, r1, r2, r3⟩ := feed_eq 4000 (by decide) (by decide) T hT T.size 0 k c ⟨#[]⟩ (by omega) (by omega) h (by show 0 + _ ≤ _; omega) (by omega)
  rw [List.drop_zero] at r2 r3
  unfold chunk_Feed.f
  rw [right_inv h k (by omega), Option.bind_some, if_pos rfl, if_pos (by omega), r1, Option.bind_some]
  by_cases h0 : r.1 = 0
  · rw [if_pos h0, if_pos (by rw [← r2]; exact h0), r3 h0]
    unfold feedR
    dsimp only
    have e : (⟨#[]⟩ : ByteArray) ++ (⟨(feedL T.data.toList c).2.2.2.toArray⟩ : ByteArray) = ⟨(feedL T.data.toList c).2.2.2.toArray⟩ := H.ba_ext (by rw [ByteArray.data_append]; simp)
    rw [e, Nat.zero_add]
  · rw [if_neg h0, if_neg (by rw [← r2]; exact h0), r2]
end Go.Proofs.YthemlbefkdmegaaDoor.P
namespace Go.Proofs.YthemlbefkdmegaaDoor.P
open Go.RowKit Go.Proofs.YthemlbefkdmegaaDoorW.PrintWords Go.Proofs.YthemlbefkdmegaaDoorW.PrintLast Go.Proofs.YthemlbefkdmegaaDoorW.PrintMore
theorem u8_in {n : Int} (h : (Lit.int .u8 n).wf = true) : 0 ≤ n ∧ n ≤ 255 := by
  unfold Lit.wf at h
  simp [IntKind.min, IntKind.max, IntKind.signed, IntKind.bits] at h
  omega
/-! ### bytes by numbers -/
def ptab : List ByteArray := [(⟨#[51]⟩ : ByteArray), (⟨#[13, 10]⟩ : ByteArray), (⟨#[97, 98, 99]⟩ : ByteArray), (⟨#[48]⟩ : ByteArray), (⟨#[65]⟩ : ByteArray), (⟨#[59, 120, 61, 121]⟩ : ByteArray), (⟨#[13]⟩ : ByteArray), (⟨#[10]⟩ : ByteArray), (⟨#[97, 58, 32, 98]⟩ : ByteArray), (⟨#[102, 102, 102]⟩ : ByteArray), (⟨#[49, 48, 48, 48]⟩ : ByteArray), (⟨#[32]⟩ : ByteArray), (⟨#[9, 50]⟩ : ByteArray), (⟨#[49, 13, 10, 122, 13, 10]⟩ : ByteArray), (⟨#[48, 13, 10, 13, 10]⟩ : ByteArray), (⟨#[103]⟩ : ByteArray), (⟨#[102, 102, 102, 102, 102, 102, 102, 102, 102, 102, 102, 102, 102, 102, 102, 102, 102]⟩ : ByteArray), (⟨#[]⟩ : ByteArray)]
theorem ptab_small (j : Nat) (hj : j < 18) : (ptab.getD j ByteArray.empty).size ≤ 17 := by
  have a : ((List.range 18).all fun j => decide ((ptab.getD j ByteArray.empty).size ≤ 17)) = true := by kernel_rfl
  rw [List.all_eq_true] at a
  simpa using a j (List.mem_range.2 hj)
theorem Pieces_at (tab : List ByteArray) (htl : tab.length = 18) (hts : ∀ j, j < 18 → (tab.getD j ByteArray.empty).size ≤ 17) (l : List Int) (hl : ∀ x ∈ l, (Lit.int .u8 x).wf = true) (d : Nat) :
    ∀ (i k : Nat) (acc : ByteArray), 16 - i = d → i ≤ 16 → acc.size ≤ 17 * i → d + 1 ≤ k → ∃ t : ByteArray, t.size ≤ 272 ∧ lockagelaw08_Pieces.l0 k l tab acc i = some t := by
  induction d with
  | zero =>
    intro i k acc hd hi ha hk
    obtain ⟨k, rfl⟩ : ∃ j, k = j + 1 := ⟨k - 1, by omega⟩
    rw [lockagelaw08_Pieces.l0]
    by_cases h : (i : Int) < (l.length : Int)
    · rw [if_pos h, if_neg (by omega)]
      exact ⟨_, by omega, rfl⟩
    · rw [if_neg h]
      exact ⟨_, by omega, rfl⟩
  | succ d ih =>
    intro i k acc hd hi ha hk
    obtain ⟨k, rfl⟩ : ∃ j, k = j + 1 := ⟨k - 1, by omega⟩
    rw [lockagelaw08_Pieces.l0]
    by_cases h : (i : Int) < (l.length : Int)
    · have hlt : i < l.length := by omega
      have hr : rd l (i : Int) = l[i] := by simp [rd, hlt]
      have hb := u8_in (hl l[i] (List.getElem_mem _))
      obtain ⟨v, hv⟩ : ∃ v : Nat, l[i] = (v : Int) := ⟨(l[i]).toNat, by omega⟩
      obtain ⟨m, hm⟩ : ∃ m, m = v % 18 := ⟨_, rfl⟩
      have hm18 : m < 18 := by omega
      have hs := hts m hm18
      have hpl : (tab.length : Int) = 18 := by rw [htl]; rfl
      have HT := Lib.hid (show Int.tmod (v : Int) 18 = (m : Int) by rw [hm]; rfl)
      have HRD := Lib.hid (show rdOf ByteArray.empty tab (m : Int) = tab.getD m ByteArray.empty by unfold rdOf; rw [Int.toNat_natCast, List.getD_eq_getElem?_getD])
      have HW := Lib.hid (show wrap64 (rd l (i : Int)) = (v : Int) by rw [hr, hv]; unfold wrap64; omega)
      have HW2 := Lib.hid (show wrap64 ((i : Int) + 1) = ((i + 1 : Nat) : Int) by unfold wrap64; omega)
      obtain ⟨t, t1, t2⟩ := ih (i + 1) k (acc ++ tab.getD m ByteArray.empty) (by omega) (by omega) (by rw [ByteArray.size_append]; omega) (by omega)
      refine ⟨t, t1, ?_⟩
      have c1 : (i : Int) < 16 := by omega
      have c2 : (0 : Int) ≤ (i : Int) := by omega
      have c3 : (0 : Int) ≤ (m : Int) := by omega
      have c4 : (m : Int) < 18 := by omega
      have c5 : acc.size + (tab.getD m ByteArray.empty).size ≤ 9223372036854775807 := by omega
      rw [if_pos h, if_pos c1, if_pos c2, hpl, if_neg (by decide), HW.out, HT.out, if_pos c3, if_pos c4, HRD.out, if_pos c5, HW2.out]
      exact t2
    · rw [if_neg h]
      exact ⟨_, by omega, rfl⟩
theorem Pieces_ev (l : List Int) (hl : ∀ x ∈ l, (Lit.int .u8 x).wf = true) : ∃ t : ByteArray, t.size ≤ 272 ∧ ∀ k, 17 ≤ k → lockagelaw08_Pieces.f k l = some t := by
  obtain ⟨t, t1, t2⟩ := Pieces_at ptab rfl ptab_small l hl 16 0 17 ⟨#[]⟩ rfl (by decide) (by decide) (by decide)
  exact ⟨t, t1, fun k hk => at_rounds (lockagelaw08_Pieces.mono _) hk t2⟩
/-! ### the pieces -/
theorem split_end (k : Nat) (x1 : List Int) (S : ByteArray) (n : Int) (x : ByteArray) (e at_ : Int) (body : ByteArray) (f i a0 a1 : Int) (a2 : ByteArray) (a3 c0 c1 : Int) (c2 : ByteArray) (c3 : Int) (he : e = f) (h : e = 0 → a0 = c0 ∧ a1 = c1 ∧ a2 = c2 ∧ a3 = c3 ∧ n = at_ ∧ x = body) :
    lockagelaw08_ChunkSplit.j1 (k + 1) x1 true S n x e at_ body f i false a0 a1 a2 a3 c0 c1 c2 c3 = some true := by
  rw [lockagelaw08_ChunkSplit.j1, if_neg (by decide), if_pos rfl, if_pos he]
  by_cases h0 : e = 0
  · obtain ⟨rfl, rfl, rfl, rfl, rfl, rfl⟩ := h h0
    rw [if_pos h0, if_pos (by simp), if_pos rfl]
    simp
  · rw [if_neg h0]
/-- What holds between two rounds. -/
structure Mid (S : ByteArray) (W : Int × Ck × Nat × List UInt8) (c : Ck) (p : Nat) (body : ByteArray) : Prop where
  inv : Inv 4000 c
  le : p ≤ S.size
  e : W.1 = (feedL (S.data.toList.drop p) c).1
  all : (feedL (S.data.toList.drop p) c).1 = 0 → W.2.1 = (feedL (S.data.toList.drop p) c).2.1 ∧ W.2.2.1 = p + (feedL (S.data.toList.drop p) c).2.2.1 ∧ W.2.2.2 = body.data.toList ++ (feedL (S.data.toList.drop p) c).2.2.2
theorem split_err (k : Nat) (x1 : List Int) (S : ByteArray) (n : Int) (x : ByteArray) (e at_ : Int) (body : ByteArray) (f i a0 a1 : Int) (a2 : ByteArray) (a3 c0 c1 : Int) (c2 : ByteArray) (c3 : Int) (he : e = f) (hf : f ≠ 0) :
    lockagelaw08_ChunkSplit.l0 (k + 2) x1 true S n x e at_ body f i a0 a1 a2 a3 c0 c1 c2 c3 = some true := by
  rw [lockagelaw08_ChunkSplit.l0]
  by_cases h : at_ < (S.size : Int)
  · rw [if_pos h, if_neg hf]
    exact split_end k x1 S n x e at_ body f i a0 a1 a2 a3 c0 c1 c2 c3 he (fun h => absurd (he ▸ h) hf)
  · rw [if_neg h]
    exact split_end k x1 S n x e at_ body f i a0 a1 a2 a3 c0 c1 c2 c3 he (fun h => absurd (he ▸ h) hf)
/-- What the whole was told, if it was no error. -/
def Tot (W : Int × Ck × Nat × List UInt8) (n : Int) (x : ByteArray) (a0 a1 : Int) (a2 : ByteArray) (a3 : Int) : Prop :=
  W.1 = 0 → n = (W.2.2.1 : Int) ∧ x = ⟨W.2.2.2.toArray⟩ ∧ a0 = W.2.1.st ∧ a1 = W.2.1.left ∧ a2 = W.2.1.line ∧ a3 = W.2.1.many
/-- A state of the loop from which no error was told is done at the end of the text, or at the body's end. -/
theorem split_done (k : Nat) (x1 : List Int) (S : ByteArray) (W : Int × Ck × Nat × List UInt8) (n : Int) (x : ByteArray) (a0 a1 : Int) (a2 : ByteArray) (a3 : Int) (hA : Tot W n x a0 a1 a2 a3) (c : Ck) (p : Nat) (body : ByteArray) (i : Int) (hM : Mid S W c p body) (hq : feedL (S.data.toList.drop p) c = (0, c, 0, [])) :
    lockagelaw08_ChunkSplit.j1 (k + 1) x1 true S n x W.1 (p : Int) body 0 i false a0 a1 a2 a3 c.st c.left c.line c.many = some true := by
  have h0 := hM.e
  rw [hq] at h0
  obtain ⟨a, b, d⟩ := hM.all (by rw [hq])
  rw [hq] at a b d
  refine split_end k x1 S _ _ _ _ body 0 i _ _ _ _ _ _ _ _ h0 (fun h => ?_)
  obtain ⟨rfl, rfl, rfl, rfl, rfl, rfl⟩ := hA h
  rw [a]
  refine ⟨rfl, rfl, rfl, rfl, by rw [b]; rfl, H.ba_ext (by rw [d]; simp)⟩
theorem mn_nat (a b : Nat) : mn (a : Int) (b : Int) = ((min a b : Nat) : Int) := by unfold mn; omega
theorem wrap_nat (a : Nat) (h : a ≤ 1000000) : wrap64 (a : Int) = (a : Int) := by unfold wrap64; omega
theorem wrap_add (a b : Nat) (h : a + b ≤ 1000000) : wrap64 ((a : Int) + (b : Int)) = ((a + b : Nat) : Int) := by unfold wrap64; omega
theorem wrap_sub (a b : Nat) (h : b ≤ a) (h2 : a ≤ 1000000) : wrap64 ((a : Int) - (b : Int)) = ((a - b : Nat) : Int) := by unfold wrap64; omega
theorem wrap_one (a : Nat) (h : a ≤ 1000000) : wrap64 ((a : Int) + 1) = ((a + 1 : Nat) : Int) := by unfold wrap64; omega
end Go.Proofs.YthemlbefkdmegaaDoor.P
namespace Go.Proofs.YthemlbefkdmegaaDoor.P
open Go.RowKit Go.Proofs.YthemlbefkdmegaaDoorW.PrintWords Go.Proofs.YthemlbefkdmegaaDoorW.PrintLast Go.Proofs.YthemlbefkdmegaaDoorW.PrintMore
theorem split_stop (k : Nat) (x1 : List Int) (S : ByteArray) (W : Int × Ck × Nat × List UInt8) (n : Int) (x : ByteArray) (a0 a1 : Int) (a2 : ByteArray) (a3 : Int) (hA : Tot W n x a0 a1 a2 a3) (c : Ck) (p : Nat) (body : ByteArray) (i : Int) (hM : Mid S W c p body) (h : S.size ≤ p ∨ c.st = 4) :
    lockagelaw08_ChunkSplit.l0 (k + 2) x1 true S n x W.1 (p : Int) body 0 i a0 a1 a2 a3 c.st c.left c.line c.many = some true := by
  rw [lockagelaw08_ChunkSplit.l0]
  by_cases hp : (p : Int) < (S.size : Int)
  · rw [if_pos hp, if_pos rfl]
    have h4 : c.st = 4 := by omega
    have e : (c.st != 4) = false := by rw [h4]; rfl
    rw [e]
    exact split_done k x1 S W n x a0 a1 a2 a3 hA c p body i hM (feedL_four _ _ h4)
  · rw [if_neg hp]
    refine split_done k x1 S W n x a0 a1 a2 a3 hA c p body i hM ?_
    rw [List.drop_of_length_le (by rw [size_data]; omega)]
    rfl
theorem split_kk (k : Nat) (x1 : List Int) (hx : ∀ x ∈ x1, (Lit.int .u8 x).wf = true) (S : ByteArray) (n : Int) (x : ByteArray) (e : Int) (p : Nat) (body : ByteArray) (i : Nat) (a0 a1 : Int) (a2 : ByteArray) (a3 c0 c1 : Int) (c2 : ByteArray) (c3 : Int) (hp : p < S.size) (h4 : c0 ≠ 4) :
    ∃ kk : Nat, kk ≤ 7 ∧ (200 ≤ i → kk = 1) ∧ lockagelaw08_ChunkSplit.l0 (k + 5) x1 true S n x e (p : Int) body 0 (i : Int) a0 a1 a2 a3 c0 c1 c2 c3 = lockagelaw08_ChunkSplit.j3 (k + 2) x1 true S n x e (p : Int) body (i : Int) (kk : Int) a0 a1 a2 a3 c0 c1 c2 c3 := by
  have e4 : (c0 != 4) = true := bne_iff_ne.mpr h4
  by_cases hi : (i : Int) < (x1.length : Int)
  · by_cases h2 : (i : Int) < 200
    · have hlt : i < x1.length := by omega
      have hr : rd x1 (i : Int) = x1[i] := by simp [rd, hlt]
      have hb := u8_in (hx x1[i] (List.getElem_mem _))
      obtain ⟨v, hv⟩ : ∃ v : Nat, x1[i] = (v : Int) := ⟨(x1[i]).toNat, by omega⟩
      have hw : wrap64 (rd x1 (i : Int)) = (v : Int) := by rw [hr, hv]; unfold wrap64; omega
      refine ⟨v % 8, by omega, fun h => by omega, ?_⟩
      rw [lockagelaw08_ChunkSplit.l0, if_pos (by omega), if_pos rfl, e4, lockagelaw08_ChunkSplit.j1, if_pos rfl, if_pos hi, decide_eq_true h2, lockagelaw08_ChunkSplit.j2, if_pos rfl, if_pos (by omega), if_pos hi, hw]
      rfl
    · refine ⟨1, by decide, fun _ => rfl, ?_⟩
      rw [lockagelaw08_ChunkSplit.l0, if_pos (by omega), if_pos rfl, e4, lockagelaw08_ChunkSplit.j1, if_pos rfl, if_pos hi, decide_eq_false h2, lockagelaw08_ChunkSplit.j2, if_neg (by decide)]
      try rfl
  · refine ⟨1, by decide, fun _ => rfl, ?_⟩
    rw [lockagelaw08_ChunkSplit.l0, if_pos (by omega), if_pos rfl, e4, lockagelaw08_ChunkSplit.j1, if_pos rfl, if_neg hi, lockagelaw08_ChunkSplit.j2, if_neg (by decide)]
    try rfl
theorem ext_list (s : ByteArray) (i j : Nat) (h : i ≤ j) (hj : j ≤ s.size) : (s.extract i j).data.toList = (s.data.toList.drop i).take (j - i) := by
  rw [ByteArray.data_extract, Array.toList_extract]
  try simp only [List.extract_eq_take_drop]
theorem split_loop (x1 : List Int) (hx : ∀ x ∈ x1, (Lit.int .u8 x).wf = true) (S : ByteArray) (hS : S.size ≤ 272) (W : Int × Ck × Nat × List UInt8) (n : Int) (x : ByteArray) (a0 a1 : Int) (a2 : ByteArray) (a3 : Int) (hA : Tot W n x a0 a1 a2 a3) (d : Nat) : ∀ (i p k : Nat) (c : Ck) (body : ByteArray), Mid S W c p body → (200 - i) + (S.size - p) ≤ d → i ≤ 200 + p → body.size ≤ 8 * i → 5 * d + 6000 ≤ k →
    lockagelaw08_ChunkSplit.l0 k x1 true S n x W.1 (p : Int) body 0 (i : Int) a0 a1 a2 a3 c.st c.left c.line c.many = some true := by
  induction d with
  | zero =>
    intro i p k c body hM hd hi hb hk
    obtain ⟨k, rfl⟩ : ∃ j, k = j + 2 := ⟨k - 2, by omega⟩
    exact split_stop k x1 S W n x a0 a1 a2 a3 hA c p body i hM (.inl (by omega))
  | succ d ih =>
    intro i p k c body hM hd hi hb hk
    by_cases hend : S.size ≤ p ∨ c.st = 4
    · obtain ⟨k, rfl⟩ : ∃ j, k = j + 2 := ⟨k - 2, by omega⟩
      exact split_stop k x1 S W n x a0 a1 a2 a3 hA c p body i hM hend
    have hp : p < S.size := by omega
    have h4 : c.st ≠ 4 := fun e => hend (.inr e)
    obtain ⟨k, rfl⟩ : ∃ j, k = j + 5 := ⟨k - 5, by omega⟩
    obtain ⟨kk, k7, k1, hkk⟩ := split_kk k x1 hx S n x W.1 p body i a0 a1 a2 a3 c.st c.left c.line c.many hp h4
    rw [hkk]
    obtain ⟨q, hq⟩ : ∃ q, q = min S.size (p + kk) := ⟨_, rfl⟩
    have hq1 : p ≤ q ∧ q ≤ S.size ∧ q ≤ p + 7 := by omega
    have HW1 := Lib.hid (show mn (S.size : Int) (wrap64 ((p : Int) + (kk : Int))) = (q : Int) by rw [wrap_add p kk (by omega), mn_nat, hq])
    have HW2 := Lib.hid (wrap_sub q p hq1.1 (by omega))
    have HW3 := Lib.hid (wrap_one i (by omega))
    have hPl := ext_list S p q hq1.1 hq1.2.1
    have hPs : (S.extract p q).size = q - p := by rw [ByteArray.size_extract]; omega
    have hPn : (S.extract p q).data.toList.length = q - p := by rw [size_data, hPs]
    have hsp : S.data.toList.drop p = (S.extract p q).data.toList ++ S.data.toList.drop q := by
      rw [hPl]
      have : S.data.toList.drop q = (S.data.toList.drop p).drop (q - p) := by rw [List.drop_drop]; congr 1; omega
      rw [this, List.take_append_drop]
    have hF := feed_f hM.inv (S.extract p q) (by omega) (k + 1) (by omega)
    have c1 : (0 : Int) ≤ (p : Int) := by omega
    have c2 : (p : Int) ≤ (q : Int) := by omega
    have c3 : (q : Int) ≤ (S.size : Int) := by omega
    rw [lockagelaw08_ChunkSplit.j3, if_pos c1, HW1.out, if_pos c2, if_pos c3, Int.toNat_natCast, Int.toNat_natCast, hF, Option.bind_some]
    obtain ⟨f, hf⟩ : ∃ f, f = feedL (S.extract p q).data.toList c := ⟨_, rfl⟩
    rw [← hf]
    have c7 : ¬ ((i : Int) > 1000) := by omega
    by_cases h0 : f.1 = 0
    · rw [if_pos h0]
      dsimp only
      obtain ⟨v1, v2, v3, v4, v5⟩ := feedL_inv (by decide) (S.extract p q).data.toList c hM.inv (by rw [← hf]; exact h0)
      rw [← hf] at v1 v2 v3 v4 v5
      rw [hPn] at v2 v3 v4
      have happ := feedL_app (S.extract p q).data.toList (S.data.toList.drop q) c (by rw [← hf]; exact h0)
      rw [← hsp, ← hf, hPn] at happ
      simp only [List.drop_zero] at happ
      have hX : feedL (if f.2.2.1 = q - p then S.data.toList.drop q else []) f.2.1 = feedL (S.data.toList.drop (p + f.2.2.1)) f.2.1 := by
        by_cases hc : f.2.2.1 = q - p
        · rw [if_pos hc, hc, show p + (q - p) = q by omega]
        · rw [feedL_four _ _ (v3 (by omega)), feedL_four _ _ (v3 (by omega))]
      rw [hX] at happ
      have hyz : (⟨f.2.2.2.toArray⟩ : ByteArray).size ≤ 7 := by rw [mk_size]; omega
      have HW4 := Lib.hid (wrap_add p f.2.2.1 (by omega))
      have hM2 : Mid S W f.2.1 (p + f.2.2.1) (body ++ ⟨f.2.2.2.toArray⟩) := by
        refine ⟨v1, by omega, ?_, fun he => ?_⟩
        · rw [hM.e, happ]
        · obtain ⟨b1, b2, b3⟩ := hM.all (by rw [happ]; exact he)
          rw [happ] at b1 b2 b3
          dsimp only at b1 b2 b3
          refine ⟨b1, by rw [b2]; omega, ?_⟩
          rw [b3, ByteArray.data_append, Array.toList_append]
          simp
      have hprog : (200 - (i + 1)) + (S.size - (p + f.2.2.1)) ≤ d ∧ i + 1 ≤ 200 + (p + f.2.2.1) := by
        by_cases hi2 : i < 200
        · omega
        · have h1 := k1 (by omega)
          have hne : (S.extract p q).data.toList ≠ [] := fun e => by rw [e] at hPn; simp at hPn; omega
          have := v5 hne h4
          omega
      have c4 : ¬ ((f.2.2.1 : Int) < 0) := by omega
      have c5 : ¬ ((f.2.2.1 : Int) > ((q - p : Nat) : Int)) := by omega
      have c6 : body.size + (⟨f.2.2.2.toArray⟩ : ByteArray).size ≤ 9223372036854775807 := by omega
      have hi3 := ih (i + 1) (p + f.2.2.1) k f.2.1 (body ++ ⟨f.2.2.2.toArray⟩) hM2 hprog.1 hprog.2 (by rw [ByteArray.size_append]; omega) (by omega)
      have hj : lockagelaw08_ChunkSplit.j4 (k + 1) x1 true S n x W.1 (p : Int) body (i : Int) (f.2.2.1 : Int) ⟨f.2.2.2.toArray⟩ 0 false a0 a1 a2 a3 f.2.1.st f.2.1.left f.2.1.line f.2.1.many = some true := by
        rw [lockagelaw08_ChunkSplit.j4, if_neg (by decide), if_pos c6, if_neg c7, HW4.out, HW3.out]
        exact hi3
      rw [if_pos rfl, if_neg c4, HW2.out, if_neg c5]
      by_cases hc : (f.2.2.1 : Int) < ((q - p : Nat) : Int)
      · rw [if_pos hc, show (f.2.1.st != 4) = false by rw [v3 (by omega)]; rfl]
        exact hj
      · rw [if_neg hc]
        exact hj
    · rw [if_neg h0]
      dsimp only
      rw [if_neg h0, lockagelaw08_ChunkSplit.j4, if_neg (by decide), if_pos (by show body.size + 0 ≤ _; omega), if_neg c7]
      obtain ⟨k, rfl⟩ : ∃ j, k = j + 2 := ⟨k - 2, by omega⟩
      refine split_err k x1 S _ _ _ _ _ _ _ _ _ _ _ _ _ _ _ ?_ h0
      rw [hM.e, hsp, feedL_err _ _ _ (by rw [← hf]; exact h0), ← hf]
theorem ChunkSplit_ok (l : List Int) (y0 : l.length * 1 ≤ 140737488351232) (hl : ∀ x ∈ l, (Lit.int .u8 x).wf = true) (m : List Int) (y1 : m.length * 1 ≤ 140737488351232) (hm : ∀ x ∈ m, (Lit.int .u8 x).wf = true) : ∃ k, lockagelaw08_ChunkSplit.f k l m = some true := by
  obtain ⟨S, s1, s2⟩ := Pieces_ev l hl
  have hv : Inv 4000 ⟨0, 0, ⟨#[]⟩, 0⟩ := inv_of (by decide) (by decide) (by decide) (by decide) (by decide) (by decide) (by decide) (fun _ => rfl)
  have hF := feed_f hv S (by omega) 20000 (by omega)
  obtain ⟨W, hW⟩ : ∃ W, W = feedL S.data.toList ⟨0, 0, ⟨#[]⟩, 0⟩ := ⟨_, rfl⟩
  rw [← hW] at hF
  refine ⟨20000, ?_⟩
  unfold lockagelaw08_ChunkSplit.f
  rw [show lockagelaw08_awake.f 20000 = some true by unfold lockagelaw08_awake.f; rw [if_pos (by decide)], Option.bind_some, if_pos rfl, s2 _ (by decide), Option.bind_some]
  dsimp only at hF
  rw [hF, Option.bind_some]
  have hM : Mid S W ⟨0, 0, ⟨#[]⟩, 0⟩ 0 ⟨#[]⟩ := by
    refine ⟨hv, Nat.zero_le _, by rw [List.drop_zero, hW], fun _ => ?_⟩
    rw [List.drop_zero, ← hW, Nat.zero_add]
    exact ⟨rfl, rfl, rfl⟩
  by_cases h0 : W.1 = 0
  · rw [if_pos h0]
    dsimp only
    have := split_loop m hm S s1 W _ _ _ _ _ _ (fun _ => ⟨rfl, rfl, rfl, rfl, rfl, rfl⟩) 472 0 0 20000 ⟨0, 0, ⟨#[]⟩, 0⟩ ⟨#[]⟩ hM (by omega) (by omega) (by decide) (by decide)
    rw [h0] at this
    exact this
  · rw [if_neg h0]
    dsimp only
    exact split_loop m hm S s1 W _ _ _ _ _ _ (fun h => absurd h h0) 472 0 0 20000 ⟨0, 0, ⟨#[]⟩, 0⟩ ⟨#[]⟩ hM (by omega) (by omega) (by decide) (by decide)
end Go.Proofs.YthemlbefkdmegaaDoor.P
