/- The contract of lockagelaw06.Made in the printed form: a head by numbers. -/
import Derived.Test.YtemhokkfefidlaaGreatDoorPx6
import Derived.Test.YtemhokkfefidlaaGreatDoorHZB
import Derived.Deep.RegionWith
set_option linter.unusedVariables false
set_option linter.unusedSimpArgs false
namespace Go.Proofs.YtemhokkfefidlaaGreatDoor.P
open Go.RowKit Go.Shelf Go.Lib Go.Proofs.YtemhokkfefidlaaGreatDoorW.PrintWords Go.Proofs.YtemhokkfefidlaaGreatDoorW.PrintLast Go.Proofs.YtemhokkfefidlaaGreatDoorW.PrintMore
def lockagelaw06_Made.f (k : Nat) (l0 : List Int) (a1 : Bool) : Option (ByteArray × ByteArray × Int × ByteArray × Int × List S37) :=
 (lockagelaw06_Maker_Head.f k l0 0 a1).bind fun x => some (x.1, x.2.1, x.2.2.1, x.2.2.2.1, x.2.2.2.2.1, x.2.2.2.2.2.1)
theorem lockagelaw06_Made.mono : ∀ l0 a1 k, LeO (lockagelaw06_Made.f k l0 a1) (lockagelaw06_Made.f (k + 1) l0 a1) := by
 intro l0 a1 k
 unfold lockagelaw06_Made.f
 exact .bind (lockagelaw06_Maker_Head.mono _ _ _ _) fun _ => .refl _
set_option maxHeartbeats 1600000 in
set_option maxRecDepth 100000 in
theorem lockagelaw06_Made.calls (k : Nat) (A0 : Option Addr) (c0 : Nat) (l0 : List Int) (a1 : Bool) (r1 : ByteArray) (r2 : ByteArray) (r3 : Int) (r4 : ByteArray) (r5 : Int) (r6 : List S37) (w : World) (hr0 : Kd.C (Kd.int .u8) w A0 l0.length l0) (hc0 : l0.length ≤ c0) (h : lockagelaw06_Made.f k l0 a1 = some (r1, r2, r3, r4, r5, r6)) :
  Calls Tryz.prog 13 #[.slice A0 l0.length c0, .bool a1] w fun e w' => ∃ v5_ : Value, e = .returned (.agg #[.string r1, .string r2, .int .i64 r3, .string r4, .int .i64 r5, v5_]) ∧ Kd.R k37 37 w' w.heap.size (fun _ => True) v5_ r6 ∧ Below w.heap.size w w' := by
 unfold lockagelaw06_Made.f at h
 generalize hg : lockagelaw06_Maker_Head.f k l0 0 a1 = g at h
 obtain ⟨⟨x1, x2, x3, x4, x5, x6, x7⟩, hx, h⟩ := Option.bind_eq_some_iff.1 h
 subst hx
 have hx := hg
 clear hg
 have h2 : (x1, x2, x3, x4, x5, x6) = (r1, r2, r3, r4, r5, r6) := Option.some.inj h
 clear h
 cases h2
 have HX := Lib.hid hx
 have HR := Lib.hid hr0
 clear hx hr0
 go_enter Tryz.func13, Tryz.ntmps13
 go_wp2_with (first
  | ((with_reducible refine gate_dst (N := 4) rfl ?_); refine box_event ?hg (N := 4) ?hd (cs := #[.string (⟨#[]⟩ : ByteArray), .string (⟨#[]⟩ : ByteArray), .int .i64 0, .string (⟨#[]⟩ : ByteArray), .int .i64 0, .slice none 0 0]) (t := 30) ?hr ?_; (case hd => rfl); (case hg => rfl); (case hr => first | (go_simp; done) | (go_simp; rfl)); intro g hg w2 hbox hb; have BK := Lib.hid hbox; have HB2 := Lib.hid hb; have HG := Lib.hid hg; clear hbox hb hg)
  | ((with_reducible refine gate_dst (N := 8) rfl ?_); refine box_event ?hg (N := 8) ?hd (cs := #[.slice A0 l0.length c0, .int .i64 0]) (t := 49) ?hr ?_; (case hd => rfl); (case hg => rfl); (case hr => first | (go_simp; done) | (go_simp; rfl)); intro g3 hg w3 hbox hb; have BK3 := Lib.hid hbox; have HB3 := Lib.hid hb; have HG3 := Lib.hid hg; clear hbox hb hg))
 have hlt : g < w2.heap.size := blk_lt BK.out
 have BK4 := Lib.hid ((HB3.out.block g hlt).trans BK.out)
 have HBw := Lib.hid (HB2.out.trans (HB3.out.mono HB2.out.size))
 have hge : w.heap.size ≤ g3 := by rw [HG3.out]; exact HB2.out.size
 have K := Lib.hid (lockagelaw06_Maker_Head.calls k g3 l0 0 a1 _ _ _ _ _ _ _ w w3 ⟨A0, c0, BK3.out, hge, HR.out⟩ HBw.out HX.out)
 refine K.out.mono ?_; rintro e w4 ⟨v, rfl, ho, hi, hb, hk⟩
 have hne : g ≠ g3 := by rw [HG3.out]; omega
 have BK5 := Lib.hid (show w4.heap[g]? = _ from (hk.2 g (blk_lt BK4.out) hne (by simp)).trans BK4.out)
 have HO := Lib.hid (Kd.R_types ho BK5.out (by decide))
 have HBz := Lib.hid hb
 have hge0 : w.heap.size ≤ g := by rw [HG.out]; exact Nat.le_refl _
 have hle3 : w.heap.size ≤ w3.heap.size := HBw.out.size
 have hcz0 := (blk_cell BK5.out 0).trans rfl
 have hcz1 := (blk_cell BK5.out 1).trans rfl
 have hcz2 := (blk_cell BK5.out 2).trans rfl
 have hcz3 := (blk_cell BK5.out 3).trans rfl
 have hcz4 := (blk_cell BK5.out 4).trans rfl
 have hcz5 := (blk_cell BK5.out 5).trans rfl
 have hfz0 := blk_frozen BK5.out 0
 have hfz1 := blk_frozen BK5.out 1
 have hfz2 := blk_frozen BK5.out 2
 have hfz3 := blk_frozen BK5.out 3
 have hfz4 := blk_frozen BK5.out 4
 have hfz5 := blk_frozen BK5.out 5
 obtain ⟨Ao, co, eo⟩ := Kd.R_slice HO.out
 subst eo
 clear ho hi hb hk
 go_wp2_with fail
 refine bodyPost_ret (results_cell_row rfl _ _ g 30 #[.string r1, .string r2, .int .i64 r3, .string r4, .int .i64 r5, .slice Ao r6.length co] (0, 0) _ rfl (by (with_reducible repeat (first | refine blk_drewN ?_ _ | refine blk_drew ?_ | refine blk_alloc ?_ _)); refine blk_put (cs := #[.string r1, .string r2, .int .i64 r3, .string r4, .int .i64 r5, .slice none 0 0]) ?_ 5 _ rfl; (with_reducible repeat (first | refine blk_drewN ?_ _ | refine blk_drew ?_ | refine blk_alloc ?_ _)); refine blk_put (cs := #[.string r1, .string r2, .int .i64 r3, .string r4, .int .i64 0, .slice none 0 0]) ?_ 4 _ rfl; (with_reducible repeat (first | refine blk_drewN ?_ _ | refine blk_drew ?_ | refine blk_alloc ?_ _)); refine blk_put (cs := #[.string r1, .string r2, .int .i64 r3, .string (⟨#[]⟩ : ByteArray), .int .i64 0, .slice none 0 0]) ?_ 3 _ rfl; (with_reducible repeat (first | refine blk_drewN ?_ _ | refine blk_drew ?_ | refine blk_alloc ?_ _)); refine blk_put (cs := #[.string r1, .string r2, .int .i64 0, .string (⟨#[]⟩ : ByteArray), .int .i64 0, .slice none 0 0]) ?_ 2 _ rfl; (with_reducible repeat (first | refine blk_drewN ?_ _ | refine blk_drew ?_ | refine blk_alloc ?_ _)); refine blk_put (cs := #[.string r1, .string (⟨#[]⟩ : ByteArray), .int .i64 0, .string (⟨#[]⟩ : ByteArray), .int .i64 0, .slice none 0 0]) ?_ 1 _ rfl; (with_reducible repeat (first | refine blk_drewN ?_ _ | refine blk_drew ?_ | refine blk_alloc ?_ _)); refine blk_put (cs := #[.string (⟨#[]⟩ : ByteArray), .string (⟨#[]⟩ : ByteArray), .int .i64 0, .string (⟨#[]⟩ : ByteArray), .int .i64 0, .slice none 0 0]) ?_ 0 _ rfl; (with_reducible repeat (first | refine blk_drewN ?_ _ | refine blk_drew ?_ | refine blk_alloc ?_ _)); exact BK5.out) Tryz.underlying30 rfl (by kernel_rfl)) rfl ?_
 refine ⟨_, rfl, ?_, ?_⟩
 ·(with_reducible repeat (first | apply Kd.R_alloc | apply Kd.R_drewN | apply Kd.R_drew))
  exact Kd.R_lower (Kd.R_mono (Kd.R_far (p := ⟨g, 5, none⟩) (Kd.R_far (p := ⟨g, 4, none⟩) (Kd.R_far (p := ⟨g, 3, none⟩) (Kd.R_far (p := ⟨g, 2, none⟩) (Kd.R_far (p := ⟨g, 1, none⟩) (Kd.R_far (p := ⟨g, 0, none⟩) HO.out (fun _ hk => hk.2) (.string r1)) (fun _ hk => hk.2) (.string r2)) (fun _ hk => hk.2) (.int .i64 r3)) (fun _ hk => hk.2) (.string r4)) (fun _ hk => hk.2) (.int .i64 r5)) (fun _ hk => hk.2) (.slice Ao r6.length co)) (fun _ _ => trivial)) hle3
 ·repeat (with_reducible first | exact HBz.out | apply pw_below_drewN | apply below_drew1 | refine below_set ?_ hge0)
end Go.Proofs.YtemhokkfefidlaaGreatDoor.P
