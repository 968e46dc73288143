/- The contract of the iterator of field.Items' pieces. -/
import Derived.Test.YtljppmpigijgaaaDoorHS
import Derived.Test.YtljppmpigijgaaaDoorHC
import Derived.Maps.AppendAt
namespace Go.Proofs.YtljppmpigijgaaaDoor.H
open Go.RowKit Go.Shelf Go
attribute [local go_sem] Oper.semAt_some

theorem splitseq_any (s sep : ByteArray) (w : World) :
    Calls Tryd.prog 58 #[.string s, .string sep] w fun e w' => e = .returned (.func (.func 79) #[] #[.pointer (some ⟨w.heap.size + 1, 0, none⟩), .pointer (some ⟨w.heap.size, 0, none⟩), .pointer (some ⟨w.heap.size + 2, 0, none⟩)]) ∧
      w' = ((w.alloc (.cells #[.string s] 9)).alloc (.cells #[.string sep] 9)).alloc (.cells #[.int .i64 0] 3) := by
  go_enter Tryd.func58, Tryd.ntmps58
  go_wp2
  go_ret
  exact ⟨rfl, rfl⟩

theorem yield_any {P : Program} {m : Nat} (m' : Nat) {l : Nat} {args : Array Value} {W : World} {R : Ending → World → Prop} (h : YieldAt Fence.wide m P l args W R) : YieldAt Fence.wide m' P l args W R := by
  obtain ⟨fn, tmps, assign, body, hy, hR⟩ := h
  exact ⟨fn, tmps, assign, body, hy, hR.1, fun c cs _ => hR.2 c cs (fun _ h => by simp [Fence.wide, Fence.inRound] at h)⟩

/-- What becomes of a piece, and whether it is kept. -/
def piece (p : List UInt8) : List UInt8 := Sp.lower (Sp.trim p)
def kept (p : List UInt8) : Bool := !(piece p).isEmpty
def cnt (l : List (List UInt8)) (k : Nat) : Nat := ((l.take k).filter kept).length
theorem items_eq (l : List UInt8) : Sp.items l = ((Sp.parts 44 l).filter kept).map piece := by
  unfold Sp.items
  rw [List.filter_map]
  rfl
theorem cnt_succ (l : List (List UInt8)) (k : Nat) (p : List UInt8) (h : l[k]? = some p) : cnt l (k + 1) = cnt l k + (if kept p then 1 else 0) := by
  unfold cnt
  obtain ⟨hk, hp⟩ := List.getElem?_eq_some_iff.mp h
  rw [List.take_succ_eq_append_getElem hk, List.filter_append, List.length_append, hp]
  cases hv : kept p <;> simp [List.filter_cons, hv]
theorem cnt_get (l : List (List UInt8)) (k : Nat) (p : List UInt8) (h : l[k]? = some p) (hp : kept p = true) : ((l.filter kept).map piece)[cnt l k]? = some (piece p) := by
  unfold cnt
  obtain ⟨hk, hq⟩ := List.getElem?_eq_some_iff.mp h
  have e : l = l.take k ++ p :: l.drop (k + 1) := by rw [← hq]; simp
  have e2 : l.filter kept = (l.take k).filter kept ++ (p :: (l.drop (k + 1)).filter kept) := by
    conv => lhs; rw [e]
    rw [List.filter_append, List.filter_cons, if_pos hp]
  rw [List.getElem?_map, e2, List.getElem?_append_right (Nat.le_refl _), Nat.sub_self]
  rfl
theorem cnt_all (l : List (List UInt8)) : cnt l l.length = ((l.filter kept).map piece).length := by
  unfold cnt
  rw [List.take_length, List.length_map]
def vitems (l : List UInt8) : List Value := (Sp.items l).map fun p => .string (mkB p)
theorem mkB_list (l : List UInt8) : (mkB l).data.toList = l := by simp [mkB]
theorem vget (s : ByteArray) (k : Nat) (x : Value) (h : (vparts 44 s.data.toList)[k]? = some x) : ∃ p, (Sp.parts 44 s.data.toList)[k]? = some p ∧ x = .string (mkB p) := by
  unfold vparts at h
  rw [List.getElem?_map] at h
  cases hp : (Sp.parts 44 s.data.toList)[k]? with
  | none => rw [hp] at h; cases h
  | some p => rw [hp] at h; injection h with h; exact ⟨p, rfl, h.symm⟩
theorem parts_len (c : UInt8) (l p : List UInt8) (h : p ∈ Sp.parts c l) : p.length ≤ l.length := by
  induction l generalizing p with
  | nil => simp [Sp.parts] at h; subst h; simp
  | cons b l ih =>
    rw [Sp.parts] at h
    split at h
    · rcases List.mem_cons.mp h with h | h
      · subst h; simp
      · have := ih p h; simp; omega
    · split at h
      · rename_i e
        have : Sp.parts c l ≠ [] := by
          cases l with
          | nil => simp [Sp.parts]
          | cons b' l' => rw [Sp.parts]; split; simp; split <;> simp
        exact absurd e this
      · rename_i q r e
        rcases List.mem_cons.mp h with h | h
        · subst h
          have := ih q (by rw [e]; simp); simp; omega
        · have := ih p (by rw [e]; simp [h]); simp; omega

theorem four_blocks (W : World) (o0 o1 o2 o3 : Obj) :
    ((((W.alloc o0).alloc o1).alloc o2).alloc o3).heap[W.heap.size]? = some o0 ∧ ((((W.alloc o0).alloc o1).alloc o2).alloc o3).heap[W.heap.size + 1]? = some o1 ∧
    ((((W.alloc o0).alloc o1).alloc o2).alloc o3).heap[W.heap.size + 2]? = some o2 ∧ ((((W.alloc o0).alloc o1).alloc o2).alloc o3).heap[W.heap.size + 3]? = some o3 := by
  have e : ((((W.alloc o0).alloc o1).alloc o2).alloc o3).heap = (((W.heap.push o0).push o1).push o2).push o3 := rfl
  rw [e]
  refine ⟨?_, ?_, ?_, ?_⟩ <;> simp only [Array.getElem?_push, Array.size_push] <;> repeat (first | rw [if_pos trivial] | rw [if_neg (by omega)] | rw [if_pos (by omega)])
theorem dropWhile_len (p : UInt8 → Bool) (l : List UInt8) : (l.dropWhile p).length ≤ l.length := by
  induction l with
  | nil => simp
  | cons b l ih => rw [List.dropWhile_cons]; split <;> simp; omega
theorem trim_len (l : List UInt8) : (Sp.trim l).length ≤ l.length := by
  unfold Sp.trim Lib.trimS Lib.trimLeftS Lib.trimRightS
  have h1 := dropWhile_len (([32, 9] : List UInt8).contains ·) (l.reverse.dropWhile (([32, 9] : List UInt8).contains ·)).reverse
  have h2 := dropWhile_len (([32, 9] : List UInt8).contains ·) l.reverse
  simp at h1 h2 ⊢
  omega
theorem grown_of_below {A B : World} (h : Below A.heap.size A B) : A.grownBy B none := ⟨h.os, h.tape, h.output, h.size, fun k hk _ => h.block k hk⟩
theorem below_of_grown {A B : World} (h : A.grownBy B none) : Below A.heap.size A B := ⟨h.os, h.tape, h.output, h.size, fun k hk => h.block k hk (fun e => by cases e)⟩
theorem cell_of_heap {W : World} {b : Nat} {v : Value} {t : TypeId} (h : W.heap[b]? = some (.cells #[v] t (0, 0))) : W.cell? ⟨b, 0, none⟩ = some v := by
  unfold World.cell?; rw [h]; rfl
theorem frozen_of_heap {W : World} {b : Nat} {v : Value} {t : TypeId} (h : W.heap[b]? = some (.cells #[v] t (0, 0))) : W.frozen? ⟨b, 0, none⟩ = false := by
  unfold World.frozen?; rw [h]; rfl

/-- What holds between two pieces. -/
structure PieceAt (H : Nat) (l : Nat) (J : Nat → World → Prop) (j : Nat) (W : World) : Prop where
  j : J j W
  c : W.cell? ⟨H, 0, none⟩ = some (.func (.yield l) #[] #[])
  z : H + 5 < W.heap.size

set_option maxRecDepth 100000 in
set_option maxHeartbeats 4000000 in
theorem pieces_in (n m l b0 : Nat) (s : ByteArray) (J : Nat → World → Prop) (W : World) (hb0 : b0 < W.heap.size)
    (hs : W.cell? ⟨b0, 0, none⟩ = some (.string s)) (hsz : s.size ≤ 9223372036854775806)
    (hJ : Ab (fun r => W.heap.size ≤ r ∧ r < W.heap.size + 6) J)
    (hY : ∀ k x W1, J k W1 → W.heap.size + 6 ≤ W1.heap.size → (vitems s.data.toList)[k]? = some x → YieldAt Fence.wide m Tryd.prog l #[x] W1 fun e W' => e = .returned (.bool true) ∧ J (k + 1) W' ∧ W1.heap.size ≤ W'.heap.size ∧ ∀ b, W.heap.size ≤ b → b < W.heap.size + 6 → W'.heap[b]? = W1.heap[b]?)
    (h0 : J 0 W) :
    CallsIn Fence.wide n Tryd.prog 57 #[.func (.yield l) #[] #[], .pointer (some ⟨b0, 0, none⟩)] W fun e W' => (∃ v, e = .returned v) ∧ J (vitems s.data.toList).length W' := by
  have HJ := Lib.hid hJ
  have HY := Lib.hid hY
  clear hJ hY
  obtain ⟨H, hH⟩ : ∃ H, H = W.heap.size := ⟨_, rfl⟩
  rw [← hH] at HJ HY hb0
  have hs1 : (W.alloc (.cells #[.func (.yield l) #[] #[]] 58)).cell? ⟨b0, 0, none⟩ = some (.string s) := by
    rw [World.cell?_of_block (Below.heap_alloc W _ b0 (by omega))]; exact hs
  have hseq := fun w => (callsIn_wide (n := n - 1)).2 (splitseq_any s ⟨#[44]⟩ w)
  have HQ := Lib.hid hseq
  clear hseq
  refine callsIn_of_wp_marks Tryd.func57 rfl trivial ?_ rfl
  simp only [Tryd.ntmps57, List.size_toArray, List.length_cons, List.length_nil, Nat.reduceAdd, Nat.reduceSub, Array.replicate_succ, Array.replicate_zero, List.push_toArray, List.append_toArray, List.nil_append, List.cons_append]
  gi_wp2_with fail
  refine ⟨trivial, (fun h => by simp [Fence.wide] at h), (HQ.out _).mono ?_⟩; rintro e w' ⟨rfl, rfl⟩
  gi_wp2_with fail
  obtain ⟨W0, hW0⟩ : ∃ W0, W0 = (((W.alloc (.cells #[.func (.yield l) #[] #[]] 58)).alloc (.cells #[.string s] 9)).alloc (.cells #[.string ⟨#[44]⟩] 9)).alloc (.cells #[.int .i64 0] 3) := ⟨_, rfl⟩
  have hz0 : W0.heap.size = H + 4 := by rw [hW0, hH]; simp
  have hg0 : W.grownBy W0 none := by
    rw [hW0]
    have hB : Below W.heap.size W ((((W.alloc (.cells #[.func (.yield l) #[] #[]] 58)).alloc (.cells #[.string s] 9)).alloc (.cells #[.string ⟨#[44]⟩] 9)).alloc (.cells #[.int .i64 0] 3)) :=
      ((((Below.refl _ W).alloc (Nat.le_refl _) _).alloc (by simp) _).alloc (by simp; omega) _).alloc (by simp; omega) _
    exact ⟨hB.os, hB.tape, hB.output, hB.size, fun k hk _ => hB.block k hk⟩
  obtain ⟨g0, g1, g2, g3⟩ := four_blocks W (.cells #[.func (.yield l) #[] #[]] 58) (.cells #[.string s] 9) (.cells #[.string ⟨#[44]⟩] 9) (.cells #[.int .i64 0] 3)
  rw [← hW0, ← hH] at g0 g1 g2 g3
  have c0 := cell_of_heap g0
  have c1 := cell_of_heap g1
  have c2 := cell_of_heap g2
  have c3 := cell_of_heap g3
  have f1 := frozen_of_heap g1
  rw [← hW0]
  rw [← hH] at *
  have h00 : J 0 W0 := HJ.out 0 W W0 none h0 hg0 (fun r e => by cases e)
  clear hs hs1 h0 hg0 hW0 g0 g1 g2 g3
  refine rf_all (gf := 79) (lb := #[.pointer (some ⟨H + 2, 0, none⟩), .pointer (some ⟨H + 1, 0, none⟩), .pointer (some ⟨H + 3, 0, none⟩)]) rfl (enters_of Tryd.func79 (by kernel_rfl) rfl) 7 rfl
    (vparts 44 s.data.toList) 0 (fun r => r = H + 1) (fun b => b = H + 2 ∨ b = H + 1 ∨ b = H + 3) (fun b hb => by omega) (fun r hr => by omega)
    (fun J' W' hsz' hB' hA' hY' h0' => split_in (n - 1) _ (H + 2) (H + 1) (H + 3) s 44 J' W' (by omega) (by omega)
      ((hB'.cell (p := ⟨H + 2, 0, none⟩) (by show H + 2 < _; omega)).trans c2) ((hB'.cell (p := ⟨H + 1, 0, none⟩) (by show H + 1 < _; omega)).trans c1) ((hB'.frozen (p := ⟨H + 1, 0, none⟩) (by show H + 1 < _; omega)).trans f1) ((hB'.cell (p := ⟨H + 3, 0, none⟩) (by show H + 3 < _; omega)).trans c3) hsz hA' (fun k x W1 hj hx => YieldAt.mono (hY' k x W1 hj (Nat.zero_le _) hx) (fun e w' h => ⟨h.1, h.2.1, h.2.2.2⟩)) h0')
    (fun k W => J (cnt (Sp.parts 44 s.data.toList) k) W ∧ W.cell? ⟨H, 0, none⟩ = some (.func (.yield l) #[] #[])) ?_ ⟨by simpa [cnt] using h00, c0⟩
    (fun x => { tmps := #[.func (.yield l) #[] #[], .pointer (some ⟨b0, 0, none⟩), .pointer (some ⟨H, 0, none⟩), x, undef, .string s, .func (.func 79) #[] #[.pointer (some ⟨H + 2, 0, none⟩), .pointer (some ⟨H + 1, 0, none⟩), .pointer (some ⟨H + 3, 0, none⟩)], x, undef, undef, undef, undef, undef, undef, undef, undef, undef, undef, undef], defers := [] }) ?_ ?_ ?_
  · rintro k A B row ⟨hj, hc⟩ hg hr
    refine ⟨HJ.out _ A B row hj hg (fun r e => by have := hr r e; omega), ?_⟩
    rw [World.cell?_of_block (hg.block H (World.block_lt_of_cell? A _ hc) (fun e => by have := hr H e.symm; omega))]
    exact hc
  · intro l' x W' K hK
    gi_wp2
    exact hK
  · rintro l' k x W' ⟨hj, hc⟩ hx hlt _
    obtain ⟨p, hp, rfl⟩ := vget s k x hx
    have hps : (mkB p).size ≤ 9223372036854775807 := by
      have h1 := parts_len 44 s.data.toList p (List.mem_of_getElem? hp)
      have h2 : s.data.toList.length = s.size := by simp
      have h3 : (mkB p).size = p.length := by simp [mkB, ByteArray.size]
      omega
    have hqs : (mkB (Sp.trim p)).size ≤ 9223372036854775807 := by
      have h1 := trim_len p
      have h3 : (mkB p).size = p.length := by simp [mkB, ByteArray.size]
      have h4 : (mkB (Sp.trim p)).size = (Sp.trim p).length := by simp [mkB, ByteArray.size]
      omega
    have kt := fun w => (callsIn_wide (n := n - 1 - 1 - 1)).2 (trim_any (mkB p) w hps)
    have kl := fun w => (callsIn_wide (n := n - 1 - 1 - 1)).2 (lower_any (mkB (Sp.trim p)) w hqs)
    simp only [mkB_list] at kt kl
    have hcs := cnt_succ (Sp.parts 44 s.data.toList) k p hp
    have hcg := cnt_get (Sp.parts 44 s.data.toList) k p hp
    change ∀ w, CallsIn _ _ _ _ _ w (fun e w' => e = .returned (.string (mkB (Sp.trim p))) ∧ _) at kt
    change ∀ w, CallsIn _ _ _ _ _ w (fun e w' => e = .returned (.string (mkB (piece p))) ∧ _) at kl
    have KT := Lib.hid kt
    have KL := Lib.hid kl
    have HCS := Lib.hid hcs
    have HCG := Lib.hid hcg
    clear kt kl hcs hcg hx hps hqs
    cases hk : kept p with
    | false =>
      have he : (mkB (piece p)).toList = [] := by
        rw [Lib.toList_data, mkB_list]
        unfold kept at hk
        simpa using hk
      have HK := Lib.hid hk
      clear hk
      gi_wp2_with fail
      refine ⟨trivial, (fun h => by simp [Fence.wide, Fence.inRound] at h), (KT.out _).mono ?_⟩; rintro e w1 ⟨rfl, hB1⟩
      gi_wp2_with fail
      refine ⟨trivial, (fun h => by simp [Fence.wide, Fence.inRound] at h), (KL.out _).mono ?_⟩; rintro e w2 ⟨rfl, hB2⟩
      have hB := hB1.trans (hB2.mono hB1.size)
      gi_wp2_with fail
      refine ⟨fun _ h => (by cases h), ?_⟩
      gi_wp2_with fail
      refine ⟨hB.size, hB.block _ (by omega), hB.block _ (by omega), fun b hb => hB.block _ (by omega), ?_, ?_⟩
      · rw [HCS.out, HK.out]
        exact HJ.out _ _ _ none hj (grown_of_below hB) (fun r e => by cases e)
      · exact (hB.cell (p := ⟨H, 0, none⟩) (World.block_lt_of_cell? W' _ hc)).trans hc
    | true =>
      have he : (mkB (piece p)).toList.isEmpty = false := by
        rw [Lib.toList_data, mkB_list]
        unfold kept at hk
        simpa using hk
      have hne : ¬ (mkB (piece p)).toList = [] := by
        intro h; rw [h] at he; cases he
      have HK := Lib.hid hk
      clear hk
      gi_wp2_with fail
      refine ⟨trivial, (fun h => by simp [Fence.wide, Fence.inRound] at h), (KT.out _).mono ?_⟩; rintro e w1 ⟨rfl, hB1⟩
      gi_wp2_with fail
      refine ⟨trivial, (fun h => by simp [Fence.wide, Fence.inRound] at h), (KL.out _).mono ?_⟩; rintro e w2 ⟨rfl, hB2⟩
      have hB := hB1.trans (hB2.mono hB1.size)
      have hc2 := (hB.cell (p := ⟨H, 0, none⟩) (World.block_lt_of_cell? W' _ hc)).trans hc
      have hj2 := HJ.out _ _ _ none hj (grown_of_below hB) (fun r e => by cases e)
      have hlt2 := hB.size
      obtain ⟨fn, tmps, assign, body, hy, hR⟩ := yield_any (n - 1 - 1 - 1) (HY.out _ (.string (mkB (piece p))) w2 hj2 (by omega) (by
        unfold vitems
        rw [items_eq, List.getElem?_map, HCG.out HK.out]; rfl))
      gi_wp2_with fail
      refine ⟨(fun h => by simp [Fence.wide] at h), (show RoundIn (Fence.wide.inRound l') (n - 1 - 1 - 1) Tryd.prog l fn tmps assign body w2 _ from hR).mono ?_⟩
      rintro e w3 ⟨rfl, hj3, hz3, hk3⟩
      gi_wp2_with fail
      have hH5 : H + 5 < W'.heap.size := by omega
      have q : ∀ b, H ≤ b → b < H + 6 → w3.heap[b]? = W'.heap[b]? := fun b h1 h2 => (hk3 b h1 h2).trans (hB.block b (by omega))
      refine ⟨Nat.le_trans hlt2 hz3, q _ (by omega) (by omega), q _ (by omega) (by omega), fun b hb => q b (by omega) (by omega), ?_, ?_⟩
      · rw [HCS.out, HK.out]
        exact hj3
      · rw [World.cell?_of_block (q H (Nat.le_refl _) (by omega))]; exact hc
  · rintro W' ⟨hj, hc⟩ hd
    rw [hz0] at hd
    have hlen : (vparts 44 s.data.toList).length = (Sp.parts 44 s.data.toList).length := by unfold vparts; simp
    rw [hlen, cnt_all] at hj
    rw [List.length_map] at hj
    have hlen2 : (vitems s.data.toList).length = ((Sp.parts 44 s.data.toList).filter kept).length := by unfold vitems; rw [items_eq, List.length_map, List.length_map]
    gi_wp2
    refine ⟨by simp, .inl ⟨_, _, rfl, run_takeDeferred hd, ?_⟩⟩
    exact ⟨_, results_none rfl _ _ _, ⟨_, rfl⟩, HJ.out _ _ _ _ hj (grownBy_putObj' _ _ _) (fun r e => by cases e; omega)⟩
end Go.Proofs.YtljppmpigijgaaaDoor.H
