/- The law FrameLengths walked by hand: the printed contracts of its parts given. -/
import Derived.Test.YtljppmpigijgaaaDoorPZ
namespace Go.Proofs.YtljppmpigijgaaaDoor.P
open Go.RowKit Go.Shelf Go.Lib Go.Proofs.YtljppmpigijgaaaDoorW.PrintWords Go.Proofs.YtljppmpigijgaaaDoorW.PrintLast Go.Proofs.YtljppmpigijgaaaDoorW.PrintMore
open H (ret_bool ret_int)
/-- How long a number's digits are that are still to come. -/
def lenInv (z q : Nat) : Prop := (z = 0 ∧ q ≤ 65535) ∨ (z = 1 ∧ q ≤ 6553) ∨ (z = 2 ∧ q ≤ 655) ∨ (z = 3 ∧ q ≤ 65) ∨ (z = 4 ∧ q ≤ 6) ∨ (z = 5 ∧ q = 0)
theorem lenInv_step {z q : Nat} (h : lenInv z q) (hc : 0 < q ∨ z = 0) : lenInv (z + 1) (q / 10) := by
  unfold lenInv at h ⊢
  omega
theorem lenInv_le {z q : Nat} (h : lenInv z q) : z ≤ 5 := by
  unfold lenInv at h
  omega
theorem lenInv_q {z q : Nat} (h : lenInv z q) : q ≤ 65535 := by
  unfold lenInv at h
  omega
def set6 (w : World) (g : Nat) (v0 v1 v2 v3 v4 v5 : Value) : World := (((((w.setCell ⟨g, 0, none⟩ v0).setCell ⟨g, 1, none⟩ v1).setCell ⟨g, 2, none⟩ v2).setCell ⟨g, 3, none⟩ v3).setCell ⟨g, 4, none⟩ v4).setCell ⟨g, 5, none⟩ v5
theorem put6 {w : World} {g : Nat} {t : TypeId} {c0 c1 c2 c3 c4 c5 : Value} (h : w.heap[g]? = some (.cells #[c0, c1, c2, c3, c4, c5] t (0, 0))) (v0 v1 v2 v3 v4 v5 : Value) : (set6 w g v0 v1 v2 v3 v4 v5).heap[g]? = some (.cells #[v0, v1, v2, v3, v4, v5] t (0, 0)) := by
  unfold set6
  refine blk_put (cs := #[v0, v1, v2, v3, v4, c5]) ?_ 5 _ rfl
  refine blk_put (cs := #[v0, v1, v2, v3, c4, c5]) ?_ 4 _ rfl
  refine blk_put (cs := #[v0, v1, v2, c3, c4, c5]) ?_ 3 _ rfl
  refine blk_put (cs := #[v0, v1, c2, c3, c4, c5]) ?_ 2 _ rfl
  refine blk_put (cs := #[v0, c1, c2, c3, c4, c5]) ?_ 1 _ rfl
  exact blk_put h 0 _ rfl
theorem below_set6 {b : Nat} {w0 w : World} {g : Nat} (h : Below b w0 w) (hg : b ≤ g) (v0 v1 v2 v3 v4 v5 : Value) : Below b w0 (set6 w g v0 v1 v2 v3 v4 v5) :=
  (((((h.setCell hg _).setCell hg _).setCell hg _).setCell hg _).setCell hg _).setCell hg _
theorem hw_below {wa wb w2 w3 : World} {g : Nat} {v0 v1 v2 v3 v4 v5 : Value} (hw : w3 = set6 w2 g v0 v1 v2 v3 v4 v5) (h1 : Below wa.heap.size wa wb) (h2 : Below wb.heap.size wb w2) (hg : g = wb.heap.size) : Below wa.heap.size wa w3 := by
  subst hw
  exact below_set6 (h1.trans (h2.mono h1.size)) (by rw [hg]; exact h1.size) _ _ _ _ _ _
/-- The size of a text. -/
def strSz : Value → Nat
  | .string s => s.size
  | _ => 0
set_option maxHeartbeats 6400000 in
set_option maxRecDepth 100000 in
theorem FrameLengths_any (k : Nat) (s : ByteArray) (n : Int) (two : Bool) (coding : ByteArray) (minor : Bool) (w : World) (hs : s.size ≤ 140737488351232) (hcs : coding.size ≤ 140737488351232) (h0 : 0 ≤ n) (h1 : n ≤ 65535)
    (hA : lockagelaw07_awake.f k = some true)
    (hS : ∀ (m t re : ByteArray) (st mi : Int) (fs : List S32), m.size ≤ 1000 → t.size ≤ 1000 → re.size ≤ 1000 → fs.length ≤ 100 → (∀ x ∈ fs, x.f0.size ≤ 1000 ∧ x.f1.size ≤ 1000) → lockagelaw07_same.f k m t st re mi fs ⟨#[71, 69, 84]⟩ = some true) :
    Calls Tryd.prog 5 #[.string s, .int .u16 n, .bool two, .string coding, .bool minor] w fun e w' => e = .returned (.bool true) ∧ Below w.heap.size w w' := by
  have HS := Lib.hid hS
  have KA := fun W => Lib.hid (lockagelaw07_awake.calls k true W hA)
  clear hS hA
  obtain ⟨n, rfl⟩ : ∃ j : Nat, n = j := ⟨n.toNat, by omega⟩
  go_enter Tryd.func5, Tryd.ntmps5
  by_cases hs6 : (s.size : Int) > 60
  · have d1 : decide ((s.size : Int) > 60) = true := decide_eq_true hs6
    go_wp2_with fail
    refine (KA _).out.mono ?_; rintro e w' ⟨rfl, hB2⟩
    go_wp2_with fail
    go_ret
    exact ⟨rfl, hB2⟩
  have d1 : decide ((s.size : Int) > 60) = false := decide_eq_false hs6
  by_cases hc6 : (coding.size : Int) > 60
  · have d2 : decide ((coding.size : Int) > 60) = true := decide_eq_true hc6
    go_wp2_with fail
    refine (KA _).out.mono ?_; rintro e w' ⟨rfl, hB2⟩
    go_wp2_with fail
    go_ret
    exact ⟨rfl, hB2⟩
  have d2 : decide ((coding.size : Int) > 60) = false := decide_eq_false hc6
  have HD1 := Lib.hid d1
  have HD2 := Lib.hid d2
  go_wp2_with fail
  clear d1 d2
  go_loopw [11, 12] (fun t i wr => ∃ (x : ByteArray) (q : Nat), t = .string x ∧ i = .int .i64 q ∧ Hid (lenInv x.size q) ∧ Hid (Below w.heap.size w wr)) (fun t _ _ => 6 - strSz t)
  case atStart => exact ⟨⟨#[]⟩, n, rfl, by go_num, Lib.hid (Or.inl ⟨rfl, by omega⟩), Lib.hid (Below.refl _ _)⟩
  case round =>
    obtain ⟨x, q, rfl, rfl, hq, hB⟩ := hrel
    have hle := lenInv_le hq.out
    by_cases hgo : 0 < q ∨ x.size = 0
    · have hstep := Lib.hid (lenInv_step hq.out hgo)
      have hgo' : 0 < q ∨ (q = 0 ∧ x = ⟨#[]⟩) := by
        rcases hgo with h | h
        · exact .inl h
        · by_cases h2 : 0 < q
          · exact .inl h2
          · exact .inr ⟨by omega, ByteArray.ext (Array.eq_empty_of_size_eq_zero h)⟩
      rcases hgo' with hc | ⟨rfl, rfl⟩
      · have hsz : (strOfNums [48 + (q : Int) % 10]).size = 1 := rfl
        have HSZ := Lib.hid hsz
        have hq6 := lenInv_q hq.out
        clear hsz
        go_wp2_with (first
          | ((with_reducible refine gate_dst (N := 40) rfl ?_); refine Kd.R_lit (Kd.int .u8) _ 5 ?hg (N := 40) ?hd (xs := ([48 + (q : Int) % 10] : List Int)) (inner := [.int .u8 (48 + (q : Int) % 10)]) (ok := fun _ => True) (okp := fun _ => True) ?hr ?hp (fun _ hk => hk) trivial (Below.refl _ _) (Nat.le_refl _) (by simp) ?_; (case hd => rfl); (case hg => rfl); (case hr => first | (go_simp; done) | (go_simp; rfl)); (case hp => exact (Reps.one (show Kd.M (Kd.int .u8) _ _ _ (48 + (q : Int) % 10) [.int .u8 (48 + (q : Int) % 10)] from rfl) (Reps.none _ _))); intro v1 w1 ho hb hg_ hnew_; have HO := Lib.hid ho; have HB1 := Lib.hid hb; have hcv := own_string (P := Tryd.prog) Tryd.underlying22 Tryd.underlying5 Tryd.underlying9 (Kd.own_of_R ho); clear ho hb hg_ hnew_))
        · rename_i hlong
          rw [HSZ.out] at hlong
          omega
        refine ⟨⟨_, q / 10, rfl, by go_num, Lib.hid ?_, Lib.hid (hB.out.trans (HB1.out.mono hB.out.size))⟩, ?_⟩
        · rw [ByteArray.size_append, HSZ.out, Nat.add_comm]
          exact hstep.out
        · show 6 - (strOfNums [48 + (q : Int) % 10] ++ x).size < 6 - x.size
          rw [ByteArray.size_append, HSZ.out]
          omega
      · skip
        go_wp2_with (first
          | ((with_reducible refine gate_dst (N := 40) rfl ?_); refine Kd.R_lit (Kd.int .u8) _ 5 ?hg (N := 40) ?hd (xs := ([48] : List Int)) (inner := [.int .u8 (48)]) (ok := fun _ => True) (okp := fun _ => True) ?hr ?hp (fun _ hk => hk) trivial (Below.refl _ _) (Nat.le_refl _) (by simp) ?_; (case hd => rfl); (case hg => rfl); (case hr => first | (go_simp; done) | (go_simp; rfl)); (case hp => exact (Reps.one (show Kd.M (Kd.int .u8) _ _ _ (48) [.int .u8 (48)] from rfl) (Reps.none _ _))); intro v1 w1 ho hb hg_ hnew_; have HO := Lib.hid ho; have HB1 := Lib.hid hb; have hcv := own_string (P := Tryd.prog) Tryd.underlying22 Tryd.underlying5 Tryd.underlying9 (Kd.own_of_R ho); clear ho hb hg_ hnew_))
        refine ⟨⟨_, 0, rfl, rfl, Lib.hid ?_, Lib.hid (hB.out.trans (HB1.out.mono hB.out.size))⟩, ?_⟩
        · exact hstep.out
        · show 6 - (strOfNums [48] ++ _).size < 6 - 0
          rw [ByteArray.size_append, show (strOfNums [48]).size = 1 from rfl]
          show 6 - (1 + 0) < 6 - 0
          omega
    · have hq0 : q = 0 := by omega
      subst hq0
      have hx1 : x.toList ≠ [] := by
        intro e
        have e2 : x.toList.length = 0 := by rw [e]; rfl
        rw [toList_data] at e2
        exact hgo (.inr (by simpa using e2))
      have hx2 : (!x.toList.isEmpty) = true := by
        cases hl : x.toList with
        | nil => exact absurd hl hx1
        | cons _ _ => rfl
      have hx3 : x.toList.isEmpty = false := by simpa using hx2
      clear hgo
      go_wp2_with fail
      obtain ⟨l3, hl3⟩ : ∃ l : List ByteArray, l = [s, x, (⟨#[48]⟩ : ByteArray) ++ x] := ⟨_, rfl⟩
      have hsz3 : ∀ j, (l3.getD j ByteArray.empty).size ≤ 1000 := by
        intro j
        subst hl3
        match j with
        | 0 => show s.size ≤ 1000; omega
        | 1 => show x.size ≤ 1000; omega
        | 2 => show ((⟨#[48]⟩ : ByteArray) ++ x).size ≤ 1000; rw [ByteArray.size_append]; show 1 + x.size ≤ 1000; omega
        | j + 3 => show ByteArray.empty.size ≤ 1000; decide
      have hcells : ∀ j, j < 3 → (wr.alloc (.cells #[.string s, .string x, .string ((⟨#[48]⟩ : ByteArray) ++ x)] 9)).cell? ⟨wr.heap.size, j, none⟩ = some (.string (l3.getD j ByteArray.empty)) := by
        intro j hj
        have g := heap_alloc_new wr (.cells #[.string s, .string x, .string ((⟨#[48]⟩ : ByteArray) ++ x)] 9)
        subst hl3
        unfold World.cell?
        rw [g]
        match j, hj with
        | 0, _ => rfl
        | 1, _ => rfl
        | 2, _ => rfl
      have HBa := Lib.hid (below_alloc hB.out (.cells #[.string s, .string x, .string ((⟨#[48]⟩ : ByteArray) ++ x)] 9))
      have hlt0 : wr.heap.size < (wr.alloc (.cells #[.string s, .string x, .string ((⟨#[48]⟩ : ByteArray) ++ x)] 9)).heap.size := by simp
      have hxs : x.size ≤ 1000 := by omega
      generalize hwa : wr.alloc (.cells #[.string s, .string x, .string ((⟨#[48]⟩ : ByteArray) ++ x)] 9) = wa at HBa hcells hlt0 ⊢
      generalize hga : wr.heap.size = ga at hcells hlt0 ⊢
      have HC3 := Lib.hid hcells
      have HS3 := Lib.hid hsz3
      clear hwa hga hcells hsz3 hl3
      go_loopw [10, 14, 15, 50] (fun _ _ _ i wl => ∃ j : Nat, j ≤ 3 ∧ i = .int .i64 j ∧ Hid (Below wa.heap.size wa wl)) (fun _ _ _ i _ => 3 - (RowKit.intOf i).toNat)
      case atStart => exact ⟨0, by omega, rfl, Lib.hid (Below.refl _ _)⟩
      case round =>
        obtain ⟨j, hj, rfl, hL⟩ := hrel
        by_cases hlt : j < 3
        · have hx0 := (hL.out.cell (p := ⟨ga, j, none⟩) hlt0).trans (HC3.out j hlt)
          have hvz := HS3.out j
          obtain ⟨v, hv⟩ : ∃ v, v = l3.getD j ByteArray.empty := ⟨_, rfl⟩
          rw [← hv] at hx0 hvz
          clear hv
          go_wp2_with (first
            | ((with_reducible refine gate_dst (N := 56) rfl ?_); refine Kd.R_lit k32 _ 32 ?hg (N := 56) ?hd (xs := ([⟨(⟨#[67, 111, 110, 116, 101, 110, 116, 45, 76, 101, 110, 103, 116, 104]⟩ : ByteArray), v⟩] : List S32)) (inner := [.string (⟨#[67, 111, 110, 116, 101, 110, 116, 45, 76, 101, 110, 103, 116, 104]⟩ : ByteArray), .string v]) (ok := fun _ => True) (okp := fun _ => True) ?hr ?hp (fun _ hk => hk) trivial (Below.refl _ _) (Nat.le_refl _) (by simp) ?_; (case hd => rfl); (case hg => rfl); (case hr => first | (go_simp; done) | (go_simp; rfl)); (case hp => exact (Reps.c2 (show Kd.M k32 _ _ _ (⟨(⟨#[67, 111, 110, 116, 101, 110, 116, 45, 76, 101, 110, 103, 116, 104]⟩ : ByteArray), v⟩ : S32) [.string (⟨#[67, 111, 110, 116, 101, 110, 116, 45, 76, 101, 110, 103, 116, 104]⟩ : ByteArray), .string v] from (k32_mkM _ _ _ ⟨(⟨#[67, 111, 110, 116, 101, 110, 116, 45, 76, 101, 110, 103, 116, 104]⟩ : ByteArray), v⟩)) (Reps.none _ _))); intro v1 w1 ho hb hg_ hnew_; have HO := Lib.hid ho; have HB1 := Lib.hid hb; clear ho hb hg_ hnew_))
          obtain ⟨A1, c1, e1⟩ := Kd.R_slice HO.out
          subst e1
          have hBa := Lib.hid (hL.out.trans (HB1.out.mono hL.out.size))
          refine (head_any A1 _ c1 _).mono ?_; rintro e wb ⟨rfl, hB2⟩
          have HO2 := Lib.hid (Kd.R_below HO.out hB2)
          have hBb := Lib.hid (hBa.out.trans (hB2.mono hBa.out.size))
          clear hB2
          cases two with
          | false =>
            go_wp2_with (first
              | ((with_reducible refine gate_dst (N := 15) rfl ?_); refine box_event ?hg (N := 15) ?hd (cs := #[.string (⟨#[]⟩ : ByteArray), .string (⟨#[]⟩ : ByteArray), .int .i64 0, .string (⟨#[]⟩ : ByteArray), .int .i64 0, .slice none 0 0]) (t := 25) ?hr ?_; (case hd => rfl); (case hg => rfl); (case hr => first | (go_simp; done) | (go_simp; rfl)); intro g hg w2 hbox hb; have BK := Lib.hid hbox; have HB2 := Lib.hid hb; have HG := Lib.hid hg; clear hbox hb hg; have hcz0 := (blk_cell BK.out 0).trans rfl; have hcz1 := (blk_cell BK.out 1).trans rfl; have hcz2 := (blk_cell BK.out 2).trans rfl; have hcz3 := (blk_cell BK.out 3).trans rfl; have hcz4 := (blk_cell BK.out 4).trans rfl; have hcz5 := (blk_cell BK.out 5).trans rfl; have hcf0 := blk_frozen BK.out 0; have hcf1 := blk_frozen BK.out 1; have hcf2 := blk_frozen BK.out 2; have hcf3 := blk_frozen BK.out 3; have hcf4 := blk_frozen BK.out 4; have hcf5 := blk_frozen BK.out 5)
              | ((with_reducible refine gate_store (t := 25) (p := 15) rfl ?_); refine store_event (t := 25) (p := 15) (v := ?vo) (w1 := set6 w2 g (.string (⟨#[80, 79, 83, 84]⟩ : ByteArray)) (.string (⟨#[47]⟩ : ByteArray)) (.int .i64 0) (.string (⟨#[]⟩ : ByteArray)) (.int .i64 1) (.slice A1 1 c1)) ?hg ?ho ?hn ?hr ?_; (case ho => rfl); (case hg => rfl); (case hn => rfl); (case hr => first | (go_simp; done) | (go_simp; rfl)); intro w3 hw; have BK3 := Lib.hid (show w3.heap[g]? = _ from (congrArg (fun w_ : World => w_.heap[g]?) hw).trans (put6 BK.out _ _ _ _ _ _)); have HW3 := Lib.hid hw; clear hw; clear hcz0 hcz1 hcz2 hcz3 hcz4 hcz5 hcf0 hcf1 hcf2 hcf3 hcf4 hcf5; have hyz0 := (blk_cell BK3.out 0).trans rfl; have hyz1 := (blk_cell BK3.out 1).trans rfl; have hyz2 := (blk_cell BK3.out 2).trans rfl; have hyz3 := (blk_cell BK3.out 3).trans rfl; have hyz4 := (blk_cell BK3.out 4).trans rfl; have hyz5 := (blk_cell BK3.out 5).trans rfl; have hyf0 := blk_frozen BK3.out 0; have hyf1 := blk_frozen BK3.out 1; have hyf2 := blk_frozen BK3.out 2; have hyf3 := blk_frozen BK3.out 3; have hyf4 := blk_frozen BK3.out 4; have hyf5 := blk_frozen BK3.out 5); have HB3 := Lib.hid (hw_below HW3.out hBb.out HB2.out HG.out); have HO3 := Lib.hid (Kd.R_below HO2.out (show Below wb.heap.size wb w3 from by rw [HW3.out]; exact below_set6 HB2.out (Nat.le_of_eq HG.out.symm) _ _ _ _ _ _)); have HNE := Lib.hid (show some g ≠ (Value.slice A1 1 c1).ownBlock from fun e_ => ((Kd.R_types HO3.out BK3.out (by decide)).1 g e_.symm).2 rfl))
            refine (lockagelaw07_same.calls k _ _ _ _ _ A1 c1 [⟨(⟨#[67, 111, 110, 116, 101, 110, 116, 45, 76, 101, 110, 103, 116, 104]⟩ : ByteArray), v⟩] _ true w3 (Kd.R_reads' HO3.out).2.2 (Kd.R_reads' HO3.out).2.1 (HS.out _ _ _ _ _ _ (by decide) (by decide) (by decide) (by simp) (by intro y hy; rw [List.mem_singleton] at hy; subst hy; exact ⟨(show (14 : Nat) ≤ 1000 by decide), hvz⟩))).mono ?_; rintro e w6 ⟨rfl, hB6⟩
            have HO6 := Lib.hid (Kd.R_below HO3.out hB6)
            have BK6 := Lib.hid (blk_below BK3.out hB6)
            have HB6 := Lib.hid (HB3.out.trans (hB6.mono HB3.out.size))
            clear hB6
            clear hyz0 hyz1 hyz2 hyz3 hyz4 hyz5 hyf0 hyf1 hyf2 hyf3 hyf4 hyf5
            have hqz0 := (blk_cell BK6.out 0).trans rfl
            have hqz1 := (blk_cell BK6.out 1).trans rfl
            have hqz2 := (blk_cell BK6.out 2).trans rfl
            have hqz3 := (blk_cell BK6.out 3).trans rfl
            have hqz4 := (blk_cell BK6.out 4).trans rfl
            have hqz5 := (blk_cell BK6.out 5).trans rfl
            have hqf0 := blk_frozen BK6.out 0
            have hqf1 := blk_frozen BK6.out 1
            have hqf2 := blk_frozen BK6.out 2
            have hqf3 := blk_frozen BK6.out 3
            have hqf4 := blk_frozen BK6.out 4
            have hqf5 := blk_frozen BK6.out 5
            go_wp2_with fail
            refine (lockagelaw07_same.calls k _ _ _ _ _ A1 c1 [⟨(⟨#[67, 111, 110, 116, 101, 110, 116, 45, 76, 101, 110, 103, 116, 104]⟩ : ByteArray), v⟩] _ true w6 (Kd.R_reads' HO6.out).2.2 (Kd.R_reads' HO6.out).2.1 (HS.out _ _ _ _ _ _ (by decide) (by decide) (by decide) (by simp) (by intro y hy; rw [List.mem_singleton] at hy; subst hy; exact ⟨(show (14 : Nat) ≤ 1000 by decide), hvz⟩))).mono ?_; rintro e w7 ⟨rfl, hB7⟩
            go_wp2_with fail
            refine ⟨?_, by simp [RowKit.intOf]; omega⟩
            iterate 30 apply Exists.intro
            exact ⟨⟨j + 1, by omega, by go_num, Lib.hid (HB6.out.trans (hB7.mono HB6.out.size))⟩, rfl⟩
          | true =>
            go_wp2_with (first
              | ((with_reducible refine gate_dst (N := 15) rfl ?_); refine box_event ?hg (N := 15) ?hd (cs := #[.string (⟨#[]⟩ : ByteArray), .string (⟨#[]⟩ : ByteArray), .int .i64 0, .string (⟨#[]⟩ : ByteArray), .int .i64 0, .slice none 0 0]) (t := 25) ?hr ?_; (case hd => rfl); (case hg => rfl); (case hr => first | (go_simp; done) | (go_simp; rfl)); intro g hg w2 hbox hb; have BK := Lib.hid hbox; have HB2 := Lib.hid hb; have HG := Lib.hid hg; clear hbox hb hg; have hcz0 := (blk_cell BK.out 0).trans rfl; have hcz1 := (blk_cell BK.out 1).trans rfl; have hcz2 := (blk_cell BK.out 2).trans rfl; have hcz3 := (blk_cell BK.out 3).trans rfl; have hcz4 := (blk_cell BK.out 4).trans rfl; have hcz5 := (blk_cell BK.out 5).trans rfl; have hcf0 := blk_frozen BK.out 0; have hcf1 := blk_frozen BK.out 1; have hcf2 := blk_frozen BK.out 2; have hcf3 := blk_frozen BK.out 3; have hcf4 := blk_frozen BK.out 4; have hcf5 := blk_frozen BK.out 5)
              | ((with_reducible refine gate_store (t := 25) (p := 15) rfl ?_); refine store_event (t := 25) (p := 15) (v := ?vo) (w1 := set6 w2 g (.string (⟨#[80, 79, 83, 84]⟩ : ByteArray)) (.string (⟨#[47]⟩ : ByteArray)) (.int .i64 0) (.string (⟨#[]⟩ : ByteArray)) (.int .i64 1) (.slice A1 1 c1)) ?hg ?ho ?hn ?hr ?_; (case ho => rfl); (case hg => rfl); (case hn => rfl); (case hr => first | (go_simp; done) | (go_simp; rfl)); intro w3 hw; have BK3 := Lib.hid (show w3.heap[g]? = _ from (congrArg (fun w_ : World => w_.heap[g]?) hw).trans (put6 BK.out _ _ _ _ _ _)); have HW3 := Lib.hid hw; clear hw; clear hcz0 hcz1 hcz2 hcz3 hcz4 hcz5 hcf0 hcf1 hcf2 hcf3 hcf4 hcf5; have hyz0 := (blk_cell BK3.out 0).trans rfl; have hyz1 := (blk_cell BK3.out 1).trans rfl; have hyz2 := (blk_cell BK3.out 2).trans rfl; have hyz3 := (blk_cell BK3.out 3).trans rfl; have hyz4 := (blk_cell BK3.out 4).trans rfl; have hyz5 := (blk_cell BK3.out 5).trans rfl; have hyf0 := blk_frozen BK3.out 0; have hyf1 := blk_frozen BK3.out 1; have hyf2 := blk_frozen BK3.out 2; have hyf3 := blk_frozen BK3.out 3; have hyf4 := blk_frozen BK3.out 4; have hyf5 := blk_frozen BK3.out 5); have HB3 := Lib.hid (hw_below HW3.out hBb.out HB2.out HG.out); have HO3 := Lib.hid (Kd.R_below HO2.out (show Below wb.heap.size wb w3 from by rw [HW3.out]; exact below_set6 HB2.out (Nat.le_of_eq HG.out.symm) _ _ _ _ _ _)); have HNE := Lib.hid (show some g ≠ (Value.slice A1 1 c1).ownBlock from fun e_ => ((Kd.R_types HO3.out BK3.out (by decide)).1 g e_.symm).2 rfl)
              | ((with_reducible refine gate_builtin (b := .append) (xs := #[.tmp 60, .tmp 63]) rfl ?_); at_builtin; refine Kd.R_append k32 (w0 := wa) wa.heap.size rfl (.tmp 60) (.tmp 63) 23 32 (.agg #[(.string ⟨#[]⟩), (.string ⟨#[]⟩)]) 32 rfl Tryd.underlying23 info32 rfl (by decide) (by omega) _ [⟨(⟨#[67, 111, 110, 116, 101, 110, 116, 45, 76, 101, 110, 103, 116, 104]⟩ : ByteArray), v⟩] (⟨(⟨#[67, 79, 78, 84, 69, 78, 84, 45, 76, 69, 78, 71, 84, 72]⟩ : ByteArray), x⟩ : S32) [.string (⟨#[67, 79, 78, 84, 69, 78, 84, 45, 76, 69, 78, 71, 84, 72]⟩ : ByteArray), .string x] (fun _ => True) (fun _ => False) rfl rfl ?aP (fun _ hk => hk.elim) ?aF ?aO ?aB ?aS ?aL ?_; (case aP => exact k32_mkM _ _ _ ⟨(⟨#[67, 79, 78, 84, 69, 78, 84, 45, 76, 69, 78, 71, 84, 72]⟩ : ByteArray), x⟩); (case aB => exact HB3.out); (case aF => exact (fun _ _ => trivial)); (case aO => exact Kd.R_lower HO3.out hL.out.size); (case aS => exact HB3.out.size); (case aL => simp); intro v4 w4 ho hb hgr hat; have HO4 := Lib.hid ho; have HB4 := Lib.hid hb; have BK4 := Lib.hid (blk_grown BK3.out hgr HNE.out); clear ho hb hgr hat; obtain ⟨A2, c2, e2⟩ := Kd.R_slice HO4.out; subst e2; clear hyz0 hyz1 hyz2 hyz3 hyz4 hyz5 hyf0 hyf1 hyf2 hyf3 hyf4 hyf5; have huz0 := (blk_cell BK4.out 0).trans rfl; have huz1 := (blk_cell BK4.out 1).trans rfl; have huz2 := (blk_cell BK4.out 2).trans rfl; have huz3 := (blk_cell BK4.out 3).trans rfl; have huz4 := (blk_cell BK4.out 4).trans rfl; have huz5 := (blk_cell BK4.out 5).trans rfl; have huf0 := blk_frozen BK4.out 0; have huf1 := blk_frozen BK4.out 1; have huf2 := blk_frozen BK4.out 2; have huf3 := blk_frozen BK4.out 3; have huf4 := blk_frozen BK4.out 4; have huf5 := blk_frozen BK4.out 5)
              | ((with_reducible refine gate_store (t := 23) (p := 65) rfl ?_); refine store_event (t := 23) (p := 65) (v := ?vo5) (w1 := w4.setCell ⟨g, 5, none⟩ (.slice A2 2 c2)) ?hg ?ho ?hn ?hr ?_; (case ho => rfl); (case hg => rfl); (case hn => rfl); (case hr => first | (go_simp; done) | (go_simp; rfl)); intro w5 hw; have BK5 := Lib.hid (show w5.heap[g]? = _ from (congrArg (fun w_ : World => w_.heap[g]?) hw).trans (blk_put BK4.out 5 (.slice A2 2 c2) rfl)); have HO5 := Lib.hid (show Kd.R k32 _ w5 wa.heap.size (fun k_ => True ∧ k_ ≠ g) (.slice A2 2 c2) _ from by rw [hw]; exact Kd.R_far (p := ⟨g, 5, none⟩) (Kd.R_types HO4.out BK4.out (by decide)) (fun _ hk => hk.2) _); have HB5 := Lib.hid (show Below wa.heap.size wa w5 from by rw [hw]; exact HB4.out.setCell (Nat.le_trans hBb.out.size (Nat.le_of_eq HG.out.symm)) _); clear hw; clear huz0 huz1 huz2 huz3 huz4 huz5 huf0 huf1 huf2 huf3 huf4 huf5; have hzz0 := (blk_cell BK5.out 0).trans rfl; have hzz1 := (blk_cell BK5.out 1).trans rfl; have hzz2 := (blk_cell BK5.out 2).trans rfl; have hzz3 := (blk_cell BK5.out 3).trans rfl; have hzz4 := (blk_cell BK5.out 4).trans rfl; have hzz5 := (blk_cell BK5.out 5).trans rfl; have hzf0 := blk_frozen BK5.out 0; have hzf1 := blk_frozen BK5.out 1; have hzf2 := blk_frozen BK5.out 2; have hzf3 := blk_frozen BK5.out 3; have hzf4 := blk_frozen BK5.out 4; have hzf5 := blk_frozen BK5.out 5))
            refine (lockagelaw07_same.calls k _ _ _ _ _ A2 c2 [⟨(⟨#[67, 111, 110, 116, 101, 110, 116, 45, 76, 101, 110, 103, 116, 104]⟩ : ByteArray), v⟩, ⟨(⟨#[67, 79, 78, 84, 69, 78, 84, 45, 76, 69, 78, 71, 84, 72]⟩ : ByteArray), x⟩] _ true w5 (Kd.R_reads' HO5.out).2.2 (Kd.R_reads' HO5.out).2.1 (HS.out _ _ _ _ _ _ (by decide) (by decide) (by decide) (by simp) (by intro y hy; simp only [List.mem_cons, List.not_mem_nil, or_false] at hy; rcases hy with rfl | rfl <;> exact ⟨by first | (show (14 : Nat) ≤ 1000; decide) | decide, by first | exact hvz | exact hxs⟩))).mono ?_; rintro e w6 ⟨rfl, hB6⟩
            have HO6 := Lib.hid (Kd.R_below HO5.out hB6)
            have BK6 := Lib.hid (blk_below BK5.out hB6)
            have HB6 := Lib.hid (HB5.out.trans (hB6.mono HB5.out.size))
            clear hB6
            clear hzz0 hzz1 hzz2 hzz3 hzz4 hzz5 hzf0 hzf1 hzf2 hzf3 hzf4 hzf5
            have hqz0 := (blk_cell BK6.out 0).trans rfl
            have hqz1 := (blk_cell BK6.out 1).trans rfl
            have hqz2 := (blk_cell BK6.out 2).trans rfl
            have hqz3 := (blk_cell BK6.out 3).trans rfl
            have hqz4 := (blk_cell BK6.out 4).trans rfl
            have hqz5 := (blk_cell BK6.out 5).trans rfl
            have hqf0 := blk_frozen BK6.out 0
            have hqf1 := blk_frozen BK6.out 1
            have hqf2 := blk_frozen BK6.out 2
            have hqf3 := blk_frozen BK6.out 3
            have hqf4 := blk_frozen BK6.out 4
            have hqf5 := blk_frozen BK6.out 5
            go_wp2_with fail
            refine (lockagelaw07_same.calls k _ _ _ _ _ A2 c2 [⟨(⟨#[67, 111, 110, 116, 101, 110, 116, 45, 76, 101, 110, 103, 116, 104]⟩ : ByteArray), v⟩, ⟨(⟨#[67, 79, 78, 84, 69, 78, 84, 45, 76, 69, 78, 71, 84, 72]⟩ : ByteArray), x⟩] _ true w6 (Kd.R_reads' HO6.out).2.2 (Kd.R_reads' HO6.out).2.1 (HS.out _ _ _ _ _ _ (by decide) (by decide) (by decide) (by simp) (by intro y hy; simp only [List.mem_cons, List.not_mem_nil, or_false] at hy; rcases hy with rfl | rfl <;> exact ⟨by first | (show (14 : Nat) ≤ 1000; decide) | decide, by first | exact hvz | exact hxs⟩))).mono ?_; rintro e w7 ⟨rfl, hB7⟩
            go_wp2_with fail
            refine ⟨?_, by simp [RowKit.intOf]; omega⟩
            iterate 30 apply Exists.intro
            exact ⟨⟨j + 1, by omega, by go_num, Lib.hid (HB6.out.trans (hB7.mono HB6.out.size))⟩, rfl⟩
        · obtain rfl : j = 3 := by omega
          go_wp2_with (first
            | ((with_reducible refine gate_dst (N := 80) rfl ?_); refine Kd.R_lit k32 _ 32 ?hg (N := 80) ?hd (xs := ([⟨(⟨#[84, 114, 97, 110, 115, 102, 101, 114, 45, 69, 110, 99, 111, 100, 105, 110, 103]⟩ : ByteArray), coding⟩, ⟨(⟨#[116, 114, 97, 110, 115, 102, 101, 114, 45, 101, 110, 99, 111, 100, 105, 110, 103]⟩ : ByteArray), (⟨#[99, 104, 117, 110, 107, 101, 100]⟩ : ByteArray)⟩] : List S32)) (inner := [.string (⟨#[84, 114, 97, 110, 115, 102, 101, 114, 45, 69, 110, 99, 111, 100, 105, 110, 103]⟩ : ByteArray), .string coding, .string (⟨#[116, 114, 97, 110, 115, 102, 101, 114, 45, 101, 110, 99, 111, 100, 105, 110, 103]⟩ : ByteArray), .string (⟨#[99, 104, 117, 110, 107, 101, 100]⟩ : ByteArray)]) (ok := fun _ => True) (okp := fun _ => True) ?hr ?hp (fun _ hk => hk) trivial (Below.refl _ _) (Nat.le_refl _) (by simp) ?_; (case hd => rfl); (case hg => rfl); (case hr => first | (go_simp; done) | (go_simp; rfl)); (case hp => exact (Reps.c2 (show Kd.M k32 _ _ _ (⟨(⟨#[84, 114, 97, 110, 115, 102, 101, 114, 45, 69, 110, 99, 111, 100, 105, 110, 103]⟩ : ByteArray), coding⟩ : S32) [.string (⟨#[84, 114, 97, 110, 115, 102, 101, 114, 45, 69, 110, 99, 111, 100, 105, 110, 103]⟩ : ByteArray), .string coding] from (k32_mkM _ _ _ ⟨(⟨#[84, 114, 97, 110, 115, 102, 101, 114, 45, 69, 110, 99, 111, 100, 105, 110, 103]⟩ : ByteArray), coding⟩)) (Reps.c2 (show Kd.M k32 _ _ _ (⟨(⟨#[116, 114, 97, 110, 115, 102, 101, 114, 45, 101, 110, 99, 111, 100, 105, 110, 103]⟩ : ByteArray), (⟨#[99, 104, 117, 110, 107, 101, 100]⟩ : ByteArray)⟩ : S32) [.string (⟨#[116, 114, 97, 110, 115, 102, 101, 114, 45, 101, 110, 99, 111, 100, 105, 110, 103]⟩ : ByteArray), .string (⟨#[99, 104, 117, 110, 107, 101, 100]⟩ : ByteArray)] from (k32_mkM _ _ _ ⟨(⟨#[116, 114, 97, 110, 115, 102, 101, 114, 45, 101, 110, 99, 111, 100, 105, 110, 103]⟩ : ByteArray), (⟨#[99, 104, 117, 110, 107, 101, 100]⟩ : ByteArray)⟩)) (Reps.none _ _)))); intro v1 w1 ho hb hg_ hnew_; have HO := Lib.hid ho; have HB1 := Lib.hid hb; clear ho hb hg_ hnew_))
          obtain ⟨A1, c1, e1⟩ := Kd.R_slice HO.out
          subst e1
          have hBa := Lib.hid (hL.out.trans (HB1.out.mono hL.out.size))
          refine (head_any A1 _ c1 _).mono ?_; rintro e wb ⟨rfl, hB2⟩
          have HO2 := Lib.hid (Kd.R_below HO.out hB2)
          have hBb := Lib.hid (hBa.out.trans (hB2.mono hBa.out.size))
          clear hB2
          have hcod : coding.size ≤ 1000 := by omega
          have hc2 : 2 ≤ c1 := (Kd.R_reads' HO.out).2.1
          have hc1 : 1 ≤ c1 := by omega
          have hHw := Lib.hid (show Below w.heap.size w wa from HBa.out)
          cases two with
          | false =>
            cases minor with
            | false =>
              go_wp2_with (first
                | ((with_reducible refine gate_dst (N := 16) rfl ?_); refine box_event ?hg (N := 16) ?hd (cs := #[.string (⟨#[]⟩ : ByteArray), .string (⟨#[]⟩ : ByteArray), .int .i64 0, .string (⟨#[]⟩ : ByteArray), .int .i64 0, .slice none 0 0]) (t := 25) ?hr ?_; (case hd => rfl); (case hg => rfl); (case hr => first | (go_simp; done) | (go_simp; rfl)); intro g hg w2 hbox hb; have BK := Lib.hid hbox; have HB2 := Lib.hid hb; have HG := Lib.hid hg; clear hbox hb hg; have hcz0 := (blk_cell BK.out 0).trans rfl; have hcz1 := (blk_cell BK.out 1).trans rfl; have hcz2 := (blk_cell BK.out 2).trans rfl; have hcz3 := (blk_cell BK.out 3).trans rfl; have hcz4 := (blk_cell BK.out 4).trans rfl; have hcz5 := (blk_cell BK.out 5).trans rfl; have hcf0 := blk_frozen BK.out 0; have hcf1 := blk_frozen BK.out 1; have hcf2 := blk_frozen BK.out 2; have hcf3 := blk_frozen BK.out 3; have hcf4 := blk_frozen BK.out 4; have hcf5 := blk_frozen BK.out 5)
                | ((with_reducible refine gate_store (t := 25) (p := 16) rfl ?_); refine store_event (t := 25) (p := 16) (v := ?vo616) (w1 := set6 w2 g (.string (⟨#[80, 79, 83, 84]⟩ : ByteArray)) (.string (⟨#[47]⟩ : ByteArray)) (.int .i64 0) (.string (⟨#[]⟩ : ByteArray)) (.int .i64 1) (.slice A1 2 c1)) ?hg ?ho ?hn ?hr ?_; (case ho => rfl); (case hg => rfl); (case hn => rfl); (case hr => first | (go_simp; done) | (go_simp; rfl)); intro w3 hw; have BK3 := Lib.hid (show w3.heap[g]? = _ from (congrArg (fun w_ : World => w_.heap[g]?) hw).trans (put6 BK.out _ _ _ _ _ _)); have HW3 := Lib.hid hw; clear hw; clear hcz0 hcz1 hcz2 hcz3 hcz4 hcz5 hcf0 hcf1 hcf2 hcf3 hcf4 hcf5; have hyz0 := (blk_cell BK3.out 0).trans rfl; have hyz1 := (blk_cell BK3.out 1).trans rfl; have hyz2 := (blk_cell BK3.out 2).trans rfl; have hyz3 := (blk_cell BK3.out 3).trans rfl; have hyz4 := (blk_cell BK3.out 4).trans rfl; have hyz5 := (blk_cell BK3.out 5).trans rfl; have hyf0 := blk_frozen BK3.out 0; have hyf1 := blk_frozen BK3.out 1; have hyf2 := blk_frozen BK3.out 2; have hyf3 := blk_frozen BK3.out 3; have hyf4 := blk_frozen BK3.out 4; have hyf5 := blk_frozen BK3.out 5; have HB3 := Lib.hid (hw_below HW3.out hBb.out HB2.out HG.out); have HO3 := Lib.hid (Kd.R_lower (Kd.R_below HO2.out (show Below wb.heap.size wb w3 from by rw [HW3.out]; exact below_set6 HB2.out (Nat.le_of_eq HG.out.symm) _ _ _ _ _ _)) hL.out.size))
                | ((with_reducible refine gate_store (t := 23) (p := 87) rfl ?_); refine store_event (t := 23) (p := 87) (v := ?vo87) (w1 := w3.setCell ⟨g, 5, none⟩ (.slice A1 1 c1)) ?hg ?ho ?hn ?hr ?_; (case ho => rfl); (case hg => rfl); (case hn => rfl); (case hr => first | (go_simp; done) | (go_simp; rfl)); intro w4 hw; have BK4 := Lib.hid (show w4.heap[g]? = _ from (congrArg (fun w_ : World => w_.heap[g]?) hw).trans (blk_put BK3.out 5 (.slice A1 1 c1) rfl)); have HO4 := Lib.hid (show Kd.R k32 _ w4 wa.heap.size (fun _ => True) (.slice A1 2 c1) _ from by rw [hw]; exact Kd.R_mono (Kd.R_far (p := ⟨g, 5, none⟩) (Kd.R_types HO3.out BK3.out (by decide)) (fun _ hk => hk.2) _) (fun _ _ => trivial)); have HB4 := Lib.hid (show Below wa.heap.size wa w4 from by rw [hw]; exact HB3.out.setCell (Nat.le_trans hBb.out.size (Nat.le_of_eq HG.out.symm)) _); clear hw; clear hyz0 hyz1 hyz2 hyz3 hyz4 hyz5 hyf0 hyf1 hyf2 hyf3 hyf4 hyf5; have huz0 := (blk_cell BK4.out 0).trans rfl; have huz1 := (blk_cell BK4.out 1).trans rfl; have huz2 := (blk_cell BK4.out 2).trans rfl; have huz3 := (blk_cell BK4.out 3).trans rfl; have huz4 := (blk_cell BK4.out 4).trans rfl; have huz5 := (blk_cell BK4.out 5).trans rfl; have huf0 := blk_frozen BK4.out 0; have huf1 := blk_frozen BK4.out 1; have huf2 := blk_frozen BK4.out 2; have huf3 := blk_frozen BK4.out 3; have huf4 := blk_frozen BK4.out 4; have huf5 := blk_frozen BK4.out 5))
              refine (KA _).out.mono ?_; rintro e w6 ⟨rfl, hB6⟩
              have HO6 := Lib.hid (show Kd.R k32 _ w6 wa.heap.size (fun _ => True) (.slice A1 2 c1) [⟨(⟨#[84, 114, 97, 110, 115, 102, 101, 114, 45, 69, 110, 99, 111, 100, 105, 110, 103]⟩ : ByteArray), coding⟩, ⟨(⟨#[116, 114, 97, 110, 115, 102, 101, 114, 45, 101, 110, 99, 111, 100, 105, 110, 103]⟩ : ByteArray), (⟨#[99, 104, 117, 110, 107, 101, 100]⟩ : ByteArray)⟩] from Kd.R_below HO4.out hB6)
              have BK6 := Lib.hid (blk_below BK4.out hB6)
              have HB6 := Lib.hid (HB4.out.trans (hB6.mono HB4.out.size))
              clear hB6
              clear huz0 huz1 huz2 huz3 huz4 huz5 huf0 huf1 huf2 huf3 huf4 huf5
              have hqz0 := (blk_cell BK6.out 0).trans rfl
              have hqz1 := (blk_cell BK6.out 1).trans rfl
              have hqz2 := (blk_cell BK6.out 2).trans rfl
              have hqz3 := (blk_cell BK6.out 3).trans rfl
              have hqz4 := (blk_cell BK6.out 4).trans rfl
              have hqz5 := (blk_cell BK6.out 5).trans rfl
              have hqf0 := blk_frozen BK6.out 0
              have hqf1 := blk_frozen BK6.out 1
              have hqf2 := blk_frozen BK6.out 2
              have hqf3 := blk_frozen BK6.out 3
              have hqf4 := blk_frozen BK6.out 4
              have hqf5 := blk_frozen BK6.out 5
              go_wp2_with fail
              refine (lockagelaw07_same.calls k _ _ _ _ _ A1 c1 [⟨(⟨#[84, 114, 97, 110, 115, 102, 101, 114, 45, 69, 110, 99, 111, 100, 105, 110, 103]⟩ : ByteArray), coding⟩] _ true w6 (Kd.C_take (m := 1) (Kd.R_reads' HO6.out).2.2 (by simp)) (Nat.le_trans (show (1 : Nat) ≤ 2 by decide) (Kd.R_reads' HO6.out).2.1) (HS.out _ _ _ _ _ _ (by decide) (by decide) (by decide) (by simp) (by intro y hy; rw [List.mem_singleton] at hy; subst hy; exact ⟨(show (17 : Nat) ≤ 1000 by decide), hcod⟩))).mono ?_; rintro e w7 ⟨rfl, hB7⟩
              go_wp2_with fail
              go_ret
              exact ⟨rfl, hHw.out.trans ((HB6.out.trans (hB7.mono HB6.out.size)).mono hHw.out.size)⟩
            | true =>
              go_wp2_with (first
                | ((with_reducible refine gate_dst (N := 16) rfl ?_); refine box_event ?hg (N := 16) ?hd (cs := #[.string (⟨#[]⟩ : ByteArray), .string (⟨#[]⟩ : ByteArray), .int .i64 0, .string (⟨#[]⟩ : ByteArray), .int .i64 0, .slice none 0 0]) (t := 25) ?hr ?_; (case hd => rfl); (case hg => rfl); (case hr => first | (go_simp; done) | (go_simp; rfl)); intro g hg w2 hbox hb; have BK := Lib.hid hbox; have HB2 := Lib.hid hb; have HG := Lib.hid hg; clear hbox hb hg; have hcz0 := (blk_cell BK.out 0).trans rfl; have hcz1 := (blk_cell BK.out 1).trans rfl; have hcz2 := (blk_cell BK.out 2).trans rfl; have hcz3 := (blk_cell BK.out 3).trans rfl; have hcz4 := (blk_cell BK.out 4).trans rfl; have hcz5 := (blk_cell BK.out 5).trans rfl; have hcf0 := blk_frozen BK.out 0; have hcf1 := blk_frozen BK.out 1; have hcf2 := blk_frozen BK.out 2; have hcf3 := blk_frozen BK.out 3; have hcf4 := blk_frozen BK.out 4; have hcf5 := blk_frozen BK.out 5)
                | ((with_reducible refine gate_store (t := 25) (p := 16) rfl ?_); refine store_event (t := 25) (p := 16) (v := ?vo616) (w1 := set6 w2 g (.string (⟨#[80, 79, 83, 84]⟩ : ByteArray)) (.string (⟨#[47]⟩ : ByteArray)) (.int .i64 0) (.string (⟨#[]⟩ : ByteArray)) (.int .i64 1) (.slice A1 2 c1)) ?hg ?ho ?hn ?hr ?_; (case ho => rfl); (case hg => rfl); (case hn => rfl); (case hr => first | (go_simp; done) | (go_simp; rfl)); intro w3 hw; have BK3 := Lib.hid (show w3.heap[g]? = _ from (congrArg (fun w_ : World => w_.heap[g]?) hw).trans (put6 BK.out _ _ _ _ _ _)); have HW3 := Lib.hid hw; clear hw; clear hcz0 hcz1 hcz2 hcz3 hcz4 hcz5 hcf0 hcf1 hcf2 hcf3 hcf4 hcf5; have hyz0 := (blk_cell BK3.out 0).trans rfl; have hyz1 := (blk_cell BK3.out 1).trans rfl; have hyz2 := (blk_cell BK3.out 2).trans rfl; have hyz3 := (blk_cell BK3.out 3).trans rfl; have hyz4 := (blk_cell BK3.out 4).trans rfl; have hyz5 := (blk_cell BK3.out 5).trans rfl; have hyf0 := blk_frozen BK3.out 0; have hyf1 := blk_frozen BK3.out 1; have hyf2 := blk_frozen BK3.out 2; have hyf3 := blk_frozen BK3.out 3; have hyf4 := blk_frozen BK3.out 4; have hyf5 := blk_frozen BK3.out 5; have HB3 := Lib.hid (hw_below HW3.out hBb.out HB2.out HG.out); have HO3 := Lib.hid (Kd.R_lower (Kd.R_below HO2.out (show Below wb.heap.size wb w3 from by rw [HW3.out]; exact below_set6 HB2.out (Nat.le_of_eq HG.out.symm) _ _ _ _ _ _)) hL.out.size))
                | ((with_reducible refine gate_store (t := 23) (p := 87) rfl ?_); refine store_event (t := 23) (p := 87) (v := ?vo87) (w1 := w3.setCell ⟨g, 5, none⟩ (.slice A1 1 c1)) ?hg ?ho ?hn ?hr ?_; (case ho => rfl); (case hg => rfl); (case hn => rfl); (case hr => first | (go_simp; done) | (go_simp; rfl)); intro w4 hw; have BK4 := Lib.hid (show w4.heap[g]? = _ from (congrArg (fun w_ : World => w_.heap[g]?) hw).trans (blk_put BK3.out 5 (.slice A1 1 c1) rfl)); have HO4 := Lib.hid (show Kd.R k32 _ w4 wa.heap.size (fun _ => True) (.slice A1 2 c1) _ from by rw [hw]; exact Kd.R_mono (Kd.R_far (p := ⟨g, 5, none⟩) (Kd.R_types HO3.out BK3.out (by decide)) (fun _ hk => hk.2) _) (fun _ _ => trivial)); have HB4 := Lib.hid (show Below wa.heap.size wa w4 from by rw [hw]; exact HB3.out.setCell (Nat.le_trans hBb.out.size (Nat.le_of_eq HG.out.symm)) _); clear hw; clear hyz0 hyz1 hyz2 hyz3 hyz4 hyz5 hyf0 hyf1 hyf2 hyf3 hyf4 hyf5; have huz0 := (blk_cell BK4.out 0).trans rfl; have huz1 := (blk_cell BK4.out 1).trans rfl; have huz2 := (blk_cell BK4.out 2).trans rfl; have huz3 := (blk_cell BK4.out 3).trans rfl; have huz4 := (blk_cell BK4.out 4).trans rfl; have huz5 := (blk_cell BK4.out 5).trans rfl; have huf0 := blk_frozen BK4.out 0; have huf1 := blk_frozen BK4.out 1; have huf2 := blk_frozen BK4.out 2; have huf3 := blk_frozen BK4.out 3; have huf4 := blk_frozen BK4.out 4; have huf5 := blk_frozen BK4.out 5)
                | ((with_reducible refine gate_store (t := 3) (p := 89) rfl ?_); refine store_event (t := 3) (p := 89) (v := ?vo89) (w1 := w4.setCell ⟨g, 4, none⟩ (.int .i64 0)) ?hg ?ho ?hn ?hr ?_; (case ho => rfl); (case hg => rfl); (case hn => rfl); (case hr => first | (go_simp; done) | (go_simp; rfl)); intro w5 hw; have BK5 := Lib.hid (show w5.heap[g]? = _ from (congrArg (fun w_ : World => w_.heap[g]?) hw).trans (blk_put BK4.out 4 (.int .i64 0) rfl)); have HO5 := Lib.hid (show Kd.R k32 _ w5 wa.heap.size (fun _ => True) (.slice A1 2 c1) _ from by rw [hw]; exact Kd.R_mono (Kd.R_far (p := ⟨g, 4, none⟩) (Kd.R_types HO4.out BK4.out (by decide)) (fun _ hk => hk.2) _) (fun _ _ => trivial)); have HB5 := Lib.hid (show Below wa.heap.size wa w5 from by rw [hw]; exact HB4.out.setCell (Nat.le_trans hBb.out.size (Nat.le_of_eq HG.out.symm)) _); clear hw; clear huz0 huz1 huz2 huz3 huz4 huz5 huf0 huf1 huf2 huf3 huf4 huf5; have hzz0 := (blk_cell BK5.out 0).trans rfl; have hzz1 := (blk_cell BK5.out 1).trans rfl; have hzz2 := (blk_cell BK5.out 2).trans rfl; have hzz3 := (blk_cell BK5.out 3).trans rfl; have hzz4 := (blk_cell BK5.out 4).trans rfl; have hzz5 := (blk_cell BK5.out 5).trans rfl; have hzf0 := blk_frozen BK5.out 0; have hzf1 := blk_frozen BK5.out 1; have hzf2 := blk_frozen BK5.out 2; have hzf3 := blk_frozen BK5.out 3; have hzf4 := blk_frozen BK5.out 4; have hzf5 := blk_frozen BK5.out 5))
              refine (KA _).out.mono ?_; rintro e w6 ⟨rfl, hB6⟩
              have HO6 := Lib.hid (show Kd.R k32 _ w6 wa.heap.size (fun _ => True) (.slice A1 2 c1) [⟨(⟨#[84, 114, 97, 110, 115, 102, 101, 114, 45, 69, 110, 99, 111, 100, 105, 110, 103]⟩ : ByteArray), coding⟩, ⟨(⟨#[116, 114, 97, 110, 115, 102, 101, 114, 45, 101, 110, 99, 111, 100, 105, 110, 103]⟩ : ByteArray), (⟨#[99, 104, 117, 110, 107, 101, 100]⟩ : ByteArray)⟩] from Kd.R_below HO5.out hB6)
              have BK6 := Lib.hid (blk_below BK5.out hB6)
              have HB6 := Lib.hid (HB5.out.trans (hB6.mono HB5.out.size))
              clear hB6
              clear hzz0 hzz1 hzz2 hzz3 hzz4 hzz5 hzf0 hzf1 hzf2 hzf3 hzf4 hzf5
              have hqz0 := (blk_cell BK6.out 0).trans rfl
              have hqz1 := (blk_cell BK6.out 1).trans rfl
              have hqz2 := (blk_cell BK6.out 2).trans rfl
              have hqz3 := (blk_cell BK6.out 3).trans rfl
              have hqz4 := (blk_cell BK6.out 4).trans rfl
              have hqz5 := (blk_cell BK6.out 5).trans rfl
              have hqf0 := blk_frozen BK6.out 0
              have hqf1 := blk_frozen BK6.out 1
              have hqf2 := blk_frozen BK6.out 2
              have hqf3 := blk_frozen BK6.out 3
              have hqf4 := blk_frozen BK6.out 4
              have hqf5 := blk_frozen BK6.out 5
              go_wp2_with fail
              refine (lockagelaw07_same.calls k _ _ _ _ _ A1 c1 [⟨(⟨#[84, 114, 97, 110, 115, 102, 101, 114, 45, 69, 110, 99, 111, 100, 105, 110, 103]⟩ : ByteArray), coding⟩] _ true w6 (Kd.C_take (m := 1) (Kd.R_reads' HO6.out).2.2 (by simp)) (Nat.le_trans (show (1 : Nat) ≤ 2 by decide) (Kd.R_reads' HO6.out).2.1) (HS.out _ _ _ _ _ _ (by decide) (by decide) (by decide) (by simp) (by intro y hy; rw [List.mem_singleton] at hy; subst hy; exact ⟨(show (17 : Nat) ≤ 1000 by decide), hcod⟩))).mono ?_; rintro e w7 ⟨rfl, hB7⟩
              go_wp2_with fail
              go_ret
              exact ⟨rfl, hHw.out.trans ((HB6.out.trans (hB7.mono HB6.out.size)).mono hHw.out.size)⟩
          | true =>
            cases minor with
            | false =>
              go_wp2_with (first
                | ((with_reducible refine gate_dst (N := 16) rfl ?_); refine box_event ?hg (N := 16) ?hd (cs := #[.string (⟨#[]⟩ : ByteArray), .string (⟨#[]⟩ : ByteArray), .int .i64 0, .string (⟨#[]⟩ : ByteArray), .int .i64 0, .slice none 0 0]) (t := 25) ?hr ?_; (case hd => rfl); (case hg => rfl); (case hr => first | (go_simp; done) | (go_simp; rfl)); intro g hg w2 hbox hb; have BK := Lib.hid hbox; have HB2 := Lib.hid hb; have HG := Lib.hid hg; clear hbox hb hg; have hcz0 := (blk_cell BK.out 0).trans rfl; have hcz1 := (blk_cell BK.out 1).trans rfl; have hcz2 := (blk_cell BK.out 2).trans rfl; have hcz3 := (blk_cell BK.out 3).trans rfl; have hcz4 := (blk_cell BK.out 4).trans rfl; have hcz5 := (blk_cell BK.out 5).trans rfl; have hcf0 := blk_frozen BK.out 0; have hcf1 := blk_frozen BK.out 1; have hcf2 := blk_frozen BK.out 2; have hcf3 := blk_frozen BK.out 3; have hcf4 := blk_frozen BK.out 4; have hcf5 := blk_frozen BK.out 5)
                | ((with_reducible refine gate_store (t := 25) (p := 16) rfl ?_); refine store_event (t := 25) (p := 16) (v := ?vo616) (w1 := set6 w2 g (.string (⟨#[80, 79, 83, 84]⟩ : ByteArray)) (.string (⟨#[47]⟩ : ByteArray)) (.int .i64 0) (.string (⟨#[]⟩ : ByteArray)) (.int .i64 1) (.slice A1 2 c1)) ?hg ?ho ?hn ?hr ?_; (case ho => rfl); (case hg => rfl); (case hn => rfl); (case hr => first | (go_simp; done) | (go_simp; rfl)); intro w3 hw; have BK3 := Lib.hid (show w3.heap[g]? = _ from (congrArg (fun w_ : World => w_.heap[g]?) hw).trans (put6 BK.out _ _ _ _ _ _)); have HW3 := Lib.hid hw; clear hw; clear hcz0 hcz1 hcz2 hcz3 hcz4 hcz5 hcf0 hcf1 hcf2 hcf3 hcf4 hcf5; have hyz0 := (blk_cell BK3.out 0).trans rfl; have hyz1 := (blk_cell BK3.out 1).trans rfl; have hyz2 := (blk_cell BK3.out 2).trans rfl; have hyz3 := (blk_cell BK3.out 3).trans rfl; have hyz4 := (blk_cell BK3.out 4).trans rfl; have hyz5 := (blk_cell BK3.out 5).trans rfl; have hyf0 := blk_frozen BK3.out 0; have hyf1 := blk_frozen BK3.out 1; have hyf2 := blk_frozen BK3.out 2; have hyf3 := blk_frozen BK3.out 3; have hyf4 := blk_frozen BK3.out 4; have hyf5 := blk_frozen BK3.out 5; have HB3 := Lib.hid (hw_below HW3.out hBb.out HB2.out HG.out); have HO3 := Lib.hid (Kd.R_lower (Kd.R_below HO2.out (show Below wb.heap.size wb w3 from by rw [HW3.out]; exact below_set6 HB2.out (Nat.le_of_eq HG.out.symm) _ _ _ _ _ _)) hL.out.size)))
              refine (KA _).out.mono ?_; rintro e w6 ⟨rfl, hB6⟩
              have HO6 := Lib.hid (show Kd.R k32 _ w6 wa.heap.size (fun _ => True) (.slice A1 2 c1) [⟨(⟨#[84, 114, 97, 110, 115, 102, 101, 114, 45, 69, 110, 99, 111, 100, 105, 110, 103]⟩ : ByteArray), coding⟩, ⟨(⟨#[116, 114, 97, 110, 115, 102, 101, 114, 45, 101, 110, 99, 111, 100, 105, 110, 103]⟩ : ByteArray), (⟨#[99, 104, 117, 110, 107, 101, 100]⟩ : ByteArray)⟩] from Kd.R_below HO3.out hB6)
              have BK6 := Lib.hid (blk_below BK3.out hB6)
              have HB6 := Lib.hid (HB3.out.trans (hB6.mono HB3.out.size))
              clear hB6
              clear hyz0 hyz1 hyz2 hyz3 hyz4 hyz5 hyf0 hyf1 hyf2 hyf3 hyf4 hyf5
              have hqz0 := (blk_cell BK6.out 0).trans rfl
              have hqz1 := (blk_cell BK6.out 1).trans rfl
              have hqz2 := (blk_cell BK6.out 2).trans rfl
              have hqz3 := (blk_cell BK6.out 3).trans rfl
              have hqz4 := (blk_cell BK6.out 4).trans rfl
              have hqz5 := (blk_cell BK6.out 5).trans rfl
              have hqf0 := blk_frozen BK6.out 0
              have hqf1 := blk_frozen BK6.out 1
              have hqf2 := blk_frozen BK6.out 2
              have hqf3 := blk_frozen BK6.out 3
              have hqf4 := blk_frozen BK6.out 4
              have hqf5 := blk_frozen BK6.out 5
              go_wp2_with fail
              refine (lockagelaw07_same.calls k _ _ _ _ _ A1 c1 [⟨(⟨#[84, 114, 97, 110, 115, 102, 101, 114, 45, 69, 110, 99, 111, 100, 105, 110, 103]⟩ : ByteArray), coding⟩, ⟨(⟨#[116, 114, 97, 110, 115, 102, 101, 114, 45, 101, 110, 99, 111, 100, 105, 110, 103]⟩ : ByteArray), (⟨#[99, 104, 117, 110, 107, 101, 100]⟩ : ByteArray)⟩] _ true w6 (Kd.R_reads' HO6.out).2.2 (Kd.R_reads' HO6.out).2.1 (HS.out _ _ _ _ _ _ (by decide) (by decide) (by decide) (by simp) (by intro y hy; simp only [List.mem_cons, List.not_mem_nil, or_false] at hy; rcases hy with rfl | rfl; exact ⟨(show (17 : Nat) ≤ 1000 by decide), hcod⟩; exact ⟨(show (17 : Nat) ≤ 1000 by decide), (show (7 : Nat) ≤ 1000 by decide)⟩))).mono ?_; rintro e w7 ⟨rfl, hB7⟩
              go_wp2_with fail
              go_ret
              exact ⟨rfl, hHw.out.trans ((HB6.out.trans (hB7.mono HB6.out.size)).mono hHw.out.size)⟩
            | true =>
              go_wp2_with (first
                | ((with_reducible refine gate_dst (N := 16) rfl ?_); refine box_event ?hg (N := 16) ?hd (cs := #[.string (⟨#[]⟩ : ByteArray), .string (⟨#[]⟩ : ByteArray), .int .i64 0, .string (⟨#[]⟩ : ByteArray), .int .i64 0, .slice none 0 0]) (t := 25) ?hr ?_; (case hd => rfl); (case hg => rfl); (case hr => first | (go_simp; done) | (go_simp; rfl)); intro g hg w2 hbox hb; have BK := Lib.hid hbox; have HB2 := Lib.hid hb; have HG := Lib.hid hg; clear hbox hb hg; have hcz0 := (blk_cell BK.out 0).trans rfl; have hcz1 := (blk_cell BK.out 1).trans rfl; have hcz2 := (blk_cell BK.out 2).trans rfl; have hcz3 := (blk_cell BK.out 3).trans rfl; have hcz4 := (blk_cell BK.out 4).trans rfl; have hcz5 := (blk_cell BK.out 5).trans rfl; have hcf0 := blk_frozen BK.out 0; have hcf1 := blk_frozen BK.out 1; have hcf2 := blk_frozen BK.out 2; have hcf3 := blk_frozen BK.out 3; have hcf4 := blk_frozen BK.out 4; have hcf5 := blk_frozen BK.out 5)
                | ((with_reducible refine gate_store (t := 25) (p := 16) rfl ?_); refine store_event (t := 25) (p := 16) (v := ?vo616) (w1 := set6 w2 g (.string (⟨#[80, 79, 83, 84]⟩ : ByteArray)) (.string (⟨#[47]⟩ : ByteArray)) (.int .i64 0) (.string (⟨#[]⟩ : ByteArray)) (.int .i64 1) (.slice A1 2 c1)) ?hg ?ho ?hn ?hr ?_; (case ho => rfl); (case hg => rfl); (case hn => rfl); (case hr => first | (go_simp; done) | (go_simp; rfl)); intro w3 hw; have BK3 := Lib.hid (show w3.heap[g]? = _ from (congrArg (fun w_ : World => w_.heap[g]?) hw).trans (put6 BK.out _ _ _ _ _ _)); have HW3 := Lib.hid hw; clear hw; clear hcz0 hcz1 hcz2 hcz3 hcz4 hcz5 hcf0 hcf1 hcf2 hcf3 hcf4 hcf5; have hyz0 := (blk_cell BK3.out 0).trans rfl; have hyz1 := (blk_cell BK3.out 1).trans rfl; have hyz2 := (blk_cell BK3.out 2).trans rfl; have hyz3 := (blk_cell BK3.out 3).trans rfl; have hyz4 := (blk_cell BK3.out 4).trans rfl; have hyz5 := (blk_cell BK3.out 5).trans rfl; have hyf0 := blk_frozen BK3.out 0; have hyf1 := blk_frozen BK3.out 1; have hyf2 := blk_frozen BK3.out 2; have hyf3 := blk_frozen BK3.out 3; have hyf4 := blk_frozen BK3.out 4; have hyf5 := blk_frozen BK3.out 5; have HB3 := Lib.hid (hw_below HW3.out hBb.out HB2.out HG.out); have HO3 := Lib.hid (Kd.R_lower (Kd.R_below HO2.out (show Below wb.heap.size wb w3 from by rw [HW3.out]; exact below_set6 HB2.out (Nat.le_of_eq HG.out.symm) _ _ _ _ _ _)) hL.out.size))
                | ((with_reducible refine gate_store (t := 3) (p := 89) rfl ?_); refine store_event (t := 3) (p := 89) (v := ?vo89) (w1 := w3.setCell ⟨g, 4, none⟩ (.int .i64 0)) ?hg ?ho ?hn ?hr ?_; (case ho => rfl); (case hg => rfl); (case hn => rfl); (case hr => first | (go_simp; done) | (go_simp; rfl)); intro w5 hw; have BK5 := Lib.hid (show w5.heap[g]? = _ from (congrArg (fun w_ : World => w_.heap[g]?) hw).trans (blk_put BK3.out 4 (.int .i64 0) rfl)); have HO5 := Lib.hid (show Kd.R k32 _ w5 wa.heap.size (fun _ => True) (.slice A1 2 c1) _ from by rw [hw]; exact Kd.R_mono (Kd.R_far (p := ⟨g, 4, none⟩) (Kd.R_types HO3.out BK3.out (by decide)) (fun _ hk => hk.2) _) (fun _ _ => trivial)); have HB5 := Lib.hid (show Below wa.heap.size wa w5 from by rw [hw]; exact HB3.out.setCell (Nat.le_trans hBb.out.size (Nat.le_of_eq HG.out.symm)) _); clear hw; clear hyz0 hyz1 hyz2 hyz3 hyz4 hyz5 hyf0 hyf1 hyf2 hyf3 hyf4 hyf5; have hzz0 := (blk_cell BK5.out 0).trans rfl; have hzz1 := (blk_cell BK5.out 1).trans rfl; have hzz2 := (blk_cell BK5.out 2).trans rfl; have hzz3 := (blk_cell BK5.out 3).trans rfl; have hzz4 := (blk_cell BK5.out 4).trans rfl; have hzz5 := (blk_cell BK5.out 5).trans rfl; have hzf0 := blk_frozen BK5.out 0; have hzf1 := blk_frozen BK5.out 1; have hzf2 := blk_frozen BK5.out 2; have hzf3 := blk_frozen BK5.out 3; have hzf4 := blk_frozen BK5.out 4; have hzf5 := blk_frozen BK5.out 5))
              refine (KA _).out.mono ?_; rintro e w6 ⟨rfl, hB6⟩
              have HO6 := Lib.hid (show Kd.R k32 _ w6 wa.heap.size (fun _ => True) (.slice A1 2 c1) [⟨(⟨#[84, 114, 97, 110, 115, 102, 101, 114, 45, 69, 110, 99, 111, 100, 105, 110, 103]⟩ : ByteArray), coding⟩, ⟨(⟨#[116, 114, 97, 110, 115, 102, 101, 114, 45, 101, 110, 99, 111, 100, 105, 110, 103]⟩ : ByteArray), (⟨#[99, 104, 117, 110, 107, 101, 100]⟩ : ByteArray)⟩] from Kd.R_below HO5.out hB6)
              have BK6 := Lib.hid (blk_below BK5.out hB6)
              have HB6 := Lib.hid (HB5.out.trans (hB6.mono HB5.out.size))
              clear hB6
              clear hzz0 hzz1 hzz2 hzz3 hzz4 hzz5 hzf0 hzf1 hzf2 hzf3 hzf4 hzf5
              have hqz0 := (blk_cell BK6.out 0).trans rfl
              have hqz1 := (blk_cell BK6.out 1).trans rfl
              have hqz2 := (blk_cell BK6.out 2).trans rfl
              have hqz3 := (blk_cell BK6.out 3).trans rfl
              have hqz4 := (blk_cell BK6.out 4).trans rfl
              have hqz5 := (blk_cell BK6.out 5).trans rfl
              have hqf0 := blk_frozen BK6.out 0
              have hqf1 := blk_frozen BK6.out 1
              have hqf2 := blk_frozen BK6.out 2
              have hqf3 := blk_frozen BK6.out 3
              have hqf4 := blk_frozen BK6.out 4
              have hqf5 := blk_frozen BK6.out 5
              go_wp2_with fail
              refine (lockagelaw07_same.calls k _ _ _ _ _ A1 c1 [⟨(⟨#[84, 114, 97, 110, 115, 102, 101, 114, 45, 69, 110, 99, 111, 100, 105, 110, 103]⟩ : ByteArray), coding⟩, ⟨(⟨#[116, 114, 97, 110, 115, 102, 101, 114, 45, 101, 110, 99, 111, 100, 105, 110, 103]⟩ : ByteArray), (⟨#[99, 104, 117, 110, 107, 101, 100]⟩ : ByteArray)⟩] _ true w6 (Kd.R_reads' HO6.out).2.2 (Kd.R_reads' HO6.out).2.1 (HS.out _ _ _ _ _ _ (by decide) (by decide) (by decide) (by simp) (by intro y hy; simp only [List.mem_cons, List.not_mem_nil, or_false] at hy; rcases hy with rfl | rfl; exact ⟨(show (17 : Nat) ≤ 1000 by decide), hcod⟩; exact ⟨(show (17 : Nat) ≤ 1000 by decide), (show (7 : Nat) ≤ 1000 by decide)⟩))).mono ?_; rintro e w7 ⟨rfl, hB7⟩
              go_wp2_with fail
              go_ret
              exact ⟨rfl, hHw.out.trans ((HB6.out.trans (hB7.mono HB6.out.size)).mono hHw.out.size)⟩
theorem FrameLengths_walk (s : ByteArray) (n : Int) (two : Bool) (coding : ByteArray) (minor : Bool) (w : World) (hs : s.size ≤ 140737488351232) (hn : (Lit.int .u16 n).wf = true) (hcs : coding.size ≤ 140737488351232) :
    Calls Tryd.prog 5 #[.string s, .int .u16 n, .bool two, .string coding, .bool minor] w fun e w' => e = .returned (.bool true) ∧ Below w.heap.size w w' := by
  obtain ⟨K, hK⟩ : ∃ K : Nat, 1000000 ≤ K := ⟨_, Nat.le_refl _⟩
  have hb : 0 ≤ n ∧ n ≤ 65535 := by
    simp only [Lit.wf, IntKind.min, IntKind.max, IntKind.signed, IntKind.bits, Bool.and_eq_true, decide_eq_true_eq] at hn
    simpa using hn
  exact FrameLengths_any K s n two coding minor w hs hcs hb.1 hb.2 (awakeF_at K (by omega)) (fun m t re st mi fs hm ht hr hl hf => same_gen m t re st mi fs hm ht hr hl hf _ K hK)
end Go.Proofs.YtljppmpigijgaaaDoor.P
