/- Printed by a program of the session out of the translation: plain Lean functions, each with the contract that the Go function computes it. -/
import Derived.Test.YthmallhjbhphgaaGreatDoorHZm
import Derived.Test.YthmallhjbhphgaaGreatDoorHZ
import Derived.Test.YthmallhjbhphgaaGreatDoorPx0
import Derived.Test.YthmallhjbhphgaaGreatDoorHZB
namespace Go.Proofs.YthmallhjbhphgaaGreatDoor.P
open Go.RowKit Go.Proofs.YthmallhjbhphgaaGreatDoorW.PrintWords Go.Proofs.YthmallhjbhphgaaGreatDoorW.PrintLast Go.Proofs.YthmallhjbhphgaaGreatDoorW.PrintMore
attribute [local go_sem] max2_int min2_int max_two min_two max_three min_three max_four min_four   -- for this text's walks alone
set_option linter.unusedVariables false
set_option linter.unusedSimpArgs false

def IsS56 (w0 W : World) (g : Nat) (f0 : List Int) (f1 : Int) : Prop := ∃ A0 c0, W.heap[g]? = some (.cells #[.slice A0 f0.length c0, .int .i64 f1] 56 (0, 0)) ∧ w0.heap.size ≤ g ∧ Kd.C (Kd.int .u8) w0 A0 f0.length f0
theorem IsS56.grown {w0 W : World} {g : Nat} {f0 : List Int} {f1 : Int} {W1 : World} {row : Option Nat} (h : IsS56 w0 W g f0 f1) (hw : W.grownBy W1 row) (hne : some g ≠ row) : IsS56 w0 W1 g f0 f1 := by
 obtain ⟨A0, c0, hb, hg, hr0⟩ := h
 exact ⟨A0, c0, blk_grown hb hw hne, hg, hr0⟩
theorem IsS56.kept {w0 W : World} {g : Nat} {f0 : List Int} {f1 : Int} {W1 : World} {S : Nat → Prop} (h : IsS56 w0 W g f0 f1) (hk : Kept W W1 S) (hne : ¬ S g) : IsS56 w0 W1 g f0 f1 := by
 obtain ⟨A0, c0, hb, hg, hr0⟩ := h
 exact ⟨A0, c0, blk_kept hb hk hne, hg, hr0⟩
theorem IsS56.below {w0 W : World} {g : Nat} {f0 : List Int} {f1 : Int} {W1 : World} (h : IsS56 w0 W g f0 f1) (hw : Below W.heap.size W W1) : IsS56 w0 W1 g f0 f1 := h.grown (grown_of_below hw none) (by simp)
theorem IsS56.alloc {w0 W : World} {g : Nat} {f0 : List Int} {f1 : Int} (h : IsS56 w0 W g f0 f1) (o : Obj) : IsS56 w0 (W.alloc o) g f0 f1 := h.below (lA (Below.refl _ _) o)
theorem IsS56.drewN {w0 W : World} {g : Nat} {f0 : List Int} {f1 : Int} (h : IsS56 w0 W g f0 f1) (m : Nat) : IsS56 w0 (W.drewN m) g f0 f1 := h
theorem IsS56.drew {w0 W : World} {g : Nat} {f0 : List Int} {f1 : Int} (h : IsS56 w0 W g f0 f1) : IsS56 w0 W.drew g f0 f1 := h
theorem IsS56.at_ {w0 W : World} {g : Nat} {f0 : List Int} {f1 : Int} {w' : World} {m : Nat} (hq : W.drewN m = w') (h : IsS56 w0 W g f0 f1) : IsS56 w0 w' g f0 f1 := by subst hq; exact IsS56.drewN h m
theorem IsS56.apart {w0 W : World} {g : Nat} {f0 : List Int} {f1 : Int} {α : Type} {d : Kd α} {e : Nat} {base : Nat} {ok : Nat → Prop} {v : Value} {xs : List α} (h : IsS56 w0 W g f0 f1) (ho : d.R e W base ok v xs) (ht : ∀ q, q ∈ e :: d.E → q ≠ 56) : d.R e W base (fun k => ok k ∧ k ≠ g) v xs := by
 obtain ⟨A0, c0, hb, hg, hr0⟩ := h
 exact Kd.R_types ho hb ht
theorem IsS56.own_ne {w0 W : World} {g : Nat} {f0 : List Int} {f1 : Int} {α : Type} {d : Kd α} {e : Nat} {base : Nat} {ok : Nat → Prop} {v : Value} {xs : List α} (h : IsS56 w0 W g f0 f1) (ho : d.R e W base ok v xs) (ht : e ≠ 56) : some g ≠ v.ownBlock := by
 obtain ⟨A0, c0, hb, hg, hr0⟩ := h
 exact Kd.R_ne ho hb ht
theorem IsS56.lt {w0 W : World} {g : Nat} {f0 : List Int} {f1 : Int} (h : IsS56 w0 W g f0 f1) : g < W.heap.size := by
 obtain ⟨A0, c0, hb, hg, hr0⟩ := h
 exact blk_lt hb
theorem IsS56.new (w0 W : World) (A0 : Option Addr) (c0 : Nat) (f0 : List Int) (f1 : Int) (hB : Below w0.heap.size w0 W) (hr0 : Kd.C (Kd.int .u8) w0 A0 f0.length f0) : IsS56 w0 (W.alloc (.cells #[.slice A0 f0.length c0, .int .i64 f1] 56)) W.heap.size f0 f1 := ⟨A0, c0, by simpa using heap_alloc_new W _, hB.size, hr0⟩

def field_Get.l0 : Nat → ByteArray → List ByteArray → List (S37) → Int → Int → Option (List ByteArray)
 | 0, _, _, _, _, _ => none
 | k + 1, x1, x4, x7, x8, x9 => if x9 < x8 then (if 0 ≤ x9 then (if x9 < (x7.length : Int) then ((field_Lower.f ((rd_T37 x7 x9).f0)).bind fun t149 => ((field_Lower.f x1).bind fun t150 => (if t149.toList = t150.toList then (if x4.length < 8796093022208 then (field_Get.l0 k x1 (x4 ++ [(rd_T37 x7 x9).f1]) x7 x8 (wrap64 (x9 + 1))) else (none)) else (field_Get.l0 k x1 x4 x7 x8 (wrap64 (x9 + 1)))))) else (none)) else (none)) else (some x4)
def field_Get.f (k : Nat) (l0 : List (S37)) (a1 : ByteArray) : Option (List ByteArray) := field_Get.l0 k a1 ([] : List ByteArray) l0 (l0.length : Int) 0
theorem field_Get.mono_l : ∀ k, (∀ y0 y1 y2 y3 y4, LeO (field_Get.l0 k y0 y1 y2 y3 y4) (field_Get.l0 (k + 1) y0 y1 y2 y3 y4))
 | 0 => fun _ _ _ _ _ r h => by simp [field_Get.l0] at h
 | k + 1 => by
  have ih0 := field_Get.mono_l k
  ·intro y0 y1 y2 y3 y4
   unfold field_Get.l0; exact zM
theorem field_Get.mono : ∀ a0 a1 k, LeO (field_Get.f k a0 a1) (field_Get.f (k + 1) a0 a1) := by
 intro a0 a1 k
 have ih0 := field_Get.mono_l k
 unfold field_Get.f; exact zM
set_option maxHeartbeats 8000000 in
set_option maxRecDepth 100000 in
theorem field_Get.calls (k : Nat) (A0 : Option Addr) (c0 : Nat) (l0 : List (S37)) (a1 : ByteArray) (r : List ByteArray) (w : World) (hr0 : Kd.C k37 w A0 l0.length l0) (hc0 : l0.length ≤ c0) (h : field_Get.f k l0 a1 = some r) :
  Calls Tryz.prog 32 #[.slice A0 l0.length c0, .string a1] w fun e w' => ∃ v0_ : Value, e = .returned (v0_) ∧ Kd.R Kd.string 9 w' w.heap.size (fun _ => True) v0_ r ∧ Below w.heap.size w w' := by
 have hu37 := Tryz.underlying37; have HR0 := aM hr0; have HC0 := aM hc0; clear hr0 hc0; have HB := aM (Below.refl w.heap.size w); have H : (field_Get.l0 k a1 ([] : List ByteArray) l0 (l0.length : Int) 0) = some r := h; clear h; have H' := aM H; clear H
 go_enter Tryz.func32, Tryz.ntmps32
 go_wp2
 go_loopg [4, 9] k (fun kq v4 v9 w' => ∃ (x4_1 : List ByteArray) (x9_1 : Int), v9 = .int .i64 x9_1 ∧ Aside0 (field_Get.l0 kq a1 x4_1 l0 (l0.length : Int) x9_1 = some r) ∧ Aside0 (kq ≤ k) ∧ Aside0 (Kd.R Kd.string 9 w' w.heap.size (fun _ => True) v4 x4_1) ∧ Aside0 (Below w.heap.size w w'))
 case atStart => exact ⟨(([] : List ByteArray)), (0), zR, H', ⟨Nat.le_refl _⟩, ⟨by first | exact Kd.R_nil _ _ _ _ _ | exact Kd.N_nil _ _ _ _ _ | exact Kd.V_nil _ _ _ _ _ | exact Kd.Q_nil _ _ _ _ _ | exact Kd.S_nil _ _ _ _ _⟩, ⟨zB⟩⟩
 case round =>
  clear H'; (try clear p2); obtain ⟨x4_1, x9_1, rfl, HA, HK1, HO_4, HB⟩ := hrel; cases gk with
  | zero => exact absurd HA.out (by simp [field_Get.l0])
  | succ k1 =>
   have H := HA.out; clear HA; simp only [field_Get.l0] at H; by_cases c3 : x9_1 < (l0.length : Int)
   ·rw [if_pos c3] at H; have c3b0 := decide_eq_true c3; clear c3; by_cases c4 : 0 ≤ x9_1
    ·rw [if_pos c4] at H; have c4b0 := decide_eq_true c4; clear c4; by_cases c5 : x9_1 < (l0.length : Int)
     ·rw [if_pos c5] at H; have c5b0 := decide_eq_true c5; clear c5; obtain ⟨t149, A6, H⟩ := zc H; (try dsimp only at H); obtain ⟨t150, A7, H⟩ := zc H; (try dsimp only at H); by_cases c8 : t149.toList = t150.toList
      ·rw [if_pos c8] at H; obtain ⟨c8b0, c8b1⟩ := zd c8; clear c8; by_cases c9 : x4_1.length < 8796093022208
       ·rw [if_pos c9] at H; have LMc9 := aM c9; clear c9; obtain ⟨y151, hy151⟩ : ∃ y_ : List ByteArray, y_ = (x4_1 ++ [(rd_T37 l0 x9_1).f1]) := ⟨_, rfl⟩; (replace H : (field_Get.l0 k1 a1 y151 l0 (l0.length : Int) (wrap64 (x9_1 + 1))) = some r := zN hy151 H); have Ny151 := aM hy151; clear hy151; have H' := aM H; clear H; have p147 : 0 ≤ (x9_1 : Int) := of_decide_eq_true zA; have q147 : x9_1 < (l0.length : Int) := of_decide_eq_true zA; obtain ⟨ad147, e147, hx147_0, hx147_1⟩ := at_T37 HR0.out x9_1 p147 q147; cases e147; replace hx147_0 := (HB.out.cell (World.block_lt_of_cell? w _ hx147_0)).trans hx147_0; replace hx147_1 := (HB.out.cell (World.block_lt_of_cell? w _ hx147_1)).trans hx147_1; replace p147 := eq_true p147; replace q147 := eq_true q147
        go_wp2_with (first | ((with_reducible refine gate_dst (N := 6) rfl ?_); refine box_event ?hg (N := 6) ?hd (cs := #[.string (⟨#[]⟩ : ByteArray), .string (⟨#[]⟩ : ByteArray)]) (t := 37) ?hr ?_; (case hd => rfl); (case hg => rfl); (case hr => exact zG); intro gb148 hg w10 hbox hb; replace HO_4 := aM (Kd.R_below (zO HO_4.out) hb); have BK148 := aM hbox; have GW148 := aM (by rw [hg]; exact (below_size zB) : w.heap.size ≤ gb148); replace HB := aM (below_step zB hb); have GE148 := GW148; clear hb hbox hg; obtain ⟨_, _, _, _⟩ := cz2 BK148.out) | ((with_reducible refine gate_callee (f := 40) rfl ?_); refine goesL_ (some 15) rfl rfl Tryz.func40 (by kernel_rfl) rfl #[.string ((rd_T37 l0 x9_1).f0)] rfl zL ?_; (with_reducible refine (field_Lower.calls ((rd_T37 l0 x9_1).f0) t149 _ A6.out).mono ?_); rintro e w12 ⟨rfl, hb⟩; refine ⟨_, rfl, ?_⟩; replace HO_4 := aM (Kd.R_below (zO (rF2 HO_4.out BK148.out (by decide))) hb); replace BK148 := aM (blk_below (g := gb148) (o := .cells #[.string ((rd_T37 l0 x9_1).f0), .string ((rd_T37 l0 x9_1).f1)] 37 (0, 0)) (zQ2 BK148.out) hb); replace HB := aM (below_step zB hb); clear hb) | ((with_reducible refine gate_callee (f := 40) rfl ?_); refine goesL_ (some 17) rfl rfl Tryz.func40 (by kernel_rfl) rfl #[.string a1] rfl zL ?_; (with_reducible refine (field_Lower.calls a1 t150 _ A7.out).mono ?_); rintro e w13 ⟨rfl, hb⟩; refine ⟨_, rfl, ?_⟩; replace HO_4 := aM (Kd.R_below (zO HO_4.out) hb); replace BK148 := aM (zX BK148.out hb); replace HB := aM (below_step zB hb); clear hb; obtain ⟨_, _, _, _⟩ := cz2 BK148.out) | ((with_reducible refine gate_builtin (b := .append) (xs := #[.tmp 19, .tmp 22]) rfl ?_); at_builtin; refine Kd.R_append Kd.string (w0 := w) w.heap.size rfl (.tmp 19) (.tmp 22) 27 9 (.string ⟨#[]⟩) 16 rfl Tryz.underlying27 info9 rfl (by decide) (by omega) u4 x4_1 ((rd_T37 l0 x9_1).f1) [.string ((rd_T37 l0 x9_1).f1)] (fun _ => True) (fun _ => False) rfl rfl ?aP (fun _ hk => hk.elim) ?aF ?aO ?aB ?aS ?aL ?_; (case aP => exact rfl); (case aB => exact zB); (case aF => exact (fun _ _ => trivial)); (case aO => exact zO HO_4.out); (case aS => exact (below_size zB)); (case aL => have := LMc9.out; omega); intro v152 w15 ho hb hg hat; rw [← Ny151.out] at ho; replace BK148 := aM (blk_grown (g := gb148) (o := .cells #[.string ((rd_T37 l0 x9_1).f0), .string ((rd_T37 l0 x9_1).f1)] 37 (0, 0)) (zK BK148.out) hg (Kd.R_ne HO_4.out BK148.out (by decide))); replace HB := aM hb; have HO153 := aM ho; clear HO_4; clear ho hb hg hat))
        go_roundg k1
        case measure => have := HK1.out; omega
        case rel => exact ⟨(y151), (wrap64 (x9_1 + 1)), zR, H', ⟨by have := HK1.out; omega⟩, ⟨zO HO153.out⟩, ⟨zB⟩⟩
       ·exact zf c9 H
      ·rw [if_neg c8] at H; obtain ⟨c8b0, c8b1⟩ := ze c8; have H' := aM H; clear H; have p147 : 0 ≤ (x9_1 : Int) := of_decide_eq_true zA; have q147 : x9_1 < (l0.length : Int) := of_decide_eq_true zA; obtain ⟨ad147, e147, hx147_0, hx147_1⟩ := at_T37 HR0.out x9_1 p147 q147; cases e147; replace hx147_0 := (HB.out.cell (World.block_lt_of_cell? w _ hx147_0)).trans hx147_0; replace hx147_1 := (HB.out.cell (World.block_lt_of_cell? w _ hx147_1)).trans hx147_1; replace p147 := eq_true p147; replace q147 := eq_true q147
       go_wp2_with (first | ((with_reducible refine gate_dst (N := 6) rfl ?_); refine box_event ?hg (N := 6) ?hd (cs := #[.string (⟨#[]⟩ : ByteArray), .string (⟨#[]⟩ : ByteArray)]) (t := 37) ?hr ?_; (case hd => rfl); (case hg => rfl); (case hr => exact zG); intro gb148 hg w16 hbox hb; replace HO_4 := aM (Kd.R_below (zO HO_4.out) hb); have BK148 := aM hbox; have GW148 := aM (by rw [hg]; exact (below_size zB) : w.heap.size ≤ gb148); replace HB := aM (below_step zB hb); have GE148 := GW148; clear hb hbox hg; obtain ⟨_, _, _, _⟩ := cz2 BK148.out) | ((with_reducible refine gate_callee (f := 40) rfl ?_); refine goesL_ (some 15) rfl rfl Tryz.func40 (by kernel_rfl) rfl #[.string ((rd_T37 l0 x9_1).f0)] rfl zL ?_; (with_reducible refine (field_Lower.calls ((rd_T37 l0 x9_1).f0) t149 _ A6.out).mono ?_); rintro e w18 ⟨rfl, hb⟩; refine ⟨_, rfl, ?_⟩; replace HO_4 := aM (Kd.R_below (zO (rF2 HO_4.out BK148.out (by decide))) hb); replace BK148 := aM (blk_below (g := gb148) (o := .cells #[.string ((rd_T37 l0 x9_1).f0), .string ((rd_T37 l0 x9_1).f1)] 37 (0, 0)) (zQ2 BK148.out) hb); replace HB := aM (below_step zB hb); clear hb) | ((with_reducible refine gate_callee (f := 40) rfl ?_); refine goesL_ (some 17) rfl rfl Tryz.func40 (by kernel_rfl) rfl #[.string a1] rfl zL ?_; (with_reducible refine (field_Lower.calls a1 t150 _ A7.out).mono ?_); rintro e w19 ⟨rfl, hb⟩; refine ⟨_, rfl, ?_⟩; replace HO_4 := aM (Kd.R_below (zO HO_4.out) hb); replace BK148 := aM (zX BK148.out hb); replace HB := aM (below_step zB hb); clear hb))
       go_roundg k1
       case measure => have := HK1.out; omega
       case rel => exact ⟨(x4_1), (wrap64 (x9_1 + 1)), zR, H', ⟨by have := HK1.out; omega⟩, ⟨zO HO_4.out⟩, ⟨zB⟩⟩
     ·exact zf c5 H
    ·exact zf c4 H
   ·rw [if_neg c3] at H; have c3b0 := decide_eq_false c3; clear c3; obtain rfl := Option.some.inj H
    go_wp2
    go_ret
    exact ⟨_, zE, zO HO_4.out, zB⟩

end Go.Proofs.YthmallhjbhphgaaGreatDoor.P
