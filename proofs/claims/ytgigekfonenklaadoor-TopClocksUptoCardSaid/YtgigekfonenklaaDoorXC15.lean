-- by px.py, a program of this session, over the kit's printer: functions given by hand stand beside printed ones. Lean checks all of it.
import Derived.Test.YtgigekfonenklaaDoorXC0
import Derived.Test.YtgigekfonenklaaDoorXC2
import Derived.Test.YtgigekfonenklaaDoorXC4
import Derived.Test.YtgigekfonenklaaDoorXC9
import Derived.Test.YtgigekfonenklaaDoorXC10
import Derived.Test.YtgigekfonenklaaDoorXC13
import Derived.Test.YtgigekfonenklaaDoorXC14
namespace Go.Proofs.YtgigekfonenklaaDoor.XC
open Go.RowKit Go.Proofs.YtgigekfonenklaaDoorW.PrintWords Go.Proofs.YtgigekfonenklaaDoorW.PrintLast Go.Proofs.YtgigekfonenklaaDoorW.PrintMore
attribute [local go_sem] max2_int min2_int max_two min_two max_three min_three max_four min_four   -- for this text's walks alone
set_option linter.unusedVariables false
set_option linter.unusedSimpArgs false

attribute [local go_sem high] eqA28
/-! ### bellmantop_TopClocks: function 3 -/
def bellmantop_TopClocks.j0 : Nat → Int → Int → Bool → Int → Int → Int → Int → Int → Int → Int → Option (Bool)
  | 0, _, _, _, _, _, _, _, _, _, _ => none
  | k + 1, x1, x7, x34, x231000, x231001, x231002, x231003, x231004, x231005, x231006 => if x34 = true then (some (x231000 == 0 && (x231001 == 0 && (x231002 == 0 && (x231003 == 0 && (x231004 == 0 && (x231005 == 0 && (x231006 == 0)))))))) else ((civil_Time.f x231000 x231001 x231002 x231003 x231004 x231005 x231006).bind fun bt233 => ((civil_Weekday.f x231000 x231001 x231002).bind fun bt235 => ((civil_Week.f bt233.1).bind fun bt237 => (if bt233.2 = 0 then (if (wrap64 (bt233.1 - x1)) = (wrap64 (60 * x7)) then (if bt235.2 = 0 then (if bt235.1 = x231006 then (if bt237.2 = 0 then (some (bt237.1 == (wrap64 ((wrap64 ((wrap64 (1440 * x231006)) + (wrap64 (60 * x231003)))) + x231004)))) else (some false)) else (some false)) else (some false)) else (some false)) else (some false)))))
def bellmantop_TopClocks.f (k : Nat) (a0_0 : Int) (a0_1 : Int) (a0_2 : Int) (a0_3 : Int) (a0_4 : Int) (a0_5 : Int) (a0_6 : Int) (a0_7 : Int) (a0_8 : Int) (a0_9 : Int) (a1 : Int) : Option (Bool) := (bellmantop_begins.f).bind fun t221 => (if t221 = true then ((zone_Local.f k a0_0 a0_1 a0_2 a0_3 a0_4 a0_5 a0_6 a0_7 a0_8 a0_9 a1).bind fun bt222 => ((zone_Offset.f k a0_0 a0_1 a0_2 a0_3 a0_4 a0_5 a0_6 a0_7 a0_8 a0_9 a1).bind fun bt231 => (if bt222.2.2.2.2.2.2.2 = 0 then (bellmantop_TopClocks.j0 k a1 bt231.1 (bt231.2 != 0) bt222.1 bt222.2.1 bt222.2.2.1 bt222.2.2.2.1 bt222.2.2.2.2.1 bt222.2.2.2.2.2.1 bt222.2.2.2.2.2.2.1) else (bellmantop_TopClocks.j0 k a1 bt231.1 true bt222.1 bt222.2.1 bt222.2.2.1 bt222.2.2.2.1 bt222.2.2.2.2.1 bt222.2.2.2.2.2.1 bt222.2.2.2.2.2.2.1)))) else (none))
theorem bellmantop_TopClocks.mono_l : ∀ k, (∀ y0 y1 y2 y3 y4 y5 y6 y7 y8 y9, LeO (bellmantop_TopClocks.j0 k y0 y1 y2 y3 y4 y5 y6 y7 y8 y9) (bellmantop_TopClocks.j0 (k + 1) y0 y1 y2 y3 y4 y5 y6 y7 y8 y9))
  | 0 => fun _ _ _ _ _ _ _ _ _ _ r h => by simp [bellmantop_TopClocks.j0] at h
  | k + 1 => by
    have ih0 := bellmantop_TopClocks.mono_l k
    · intro y0 y1 y2 y3 y4 y5 y6 y7 y8 y9
      unfold bellmantop_TopClocks.j0
      repeat' first
      | (with_reducible exact ih0 _ _ _ _ _ _ _ _ _ _)
      | (with_reducible exact zone_Local.mono _ _ _ _ _ _ _ _ _ _ _ _)
      | (with_reducible exact zone_Offset.mono _ _ _ _ _ _ _ _ _ _ _ _)
      | (with_reducible exact LeO.refl _)
      | (with_reducible exact LeO.none _)
      | (with_reducible refine LeO.ite ?_ ?_)
      | (with_reducible refine LeO.bind ?_ (fun _ => ?_))
      | exact ih0 _ _ _ _ _ _ _ _ _ _
      | exact zone_Local.mono _ _ _ _ _ _ _ _ _ _ _ _
      | exact zone_Offset.mono _ _ _ _ _ _ _ _ _ _ _ _
      | exact LeO.none _
      | refine LeO.ite ?_ ?_
      | refine LeO.bind ?_ (fun _ => ?_)
theorem bellmantop_TopClocks.mono : ∀ a0 a1 a2 a3 a4 a5 a6 a7 a8 a9 a10 k, LeO (bellmantop_TopClocks.f k a0 a1 a2 a3 a4 a5 a6 a7 a8 a9 a10) (bellmantop_TopClocks.f (k + 1) a0 a1 a2 a3 a4 a5 a6 a7 a8 a9 a10) := by
  intro a0 a1 a2 a3 a4 a5 a6 a7 a8 a9 a10 k
  have ih0 := bellmantop_TopClocks.mono_l k
  unfold bellmantop_TopClocks.f
  repeat' first
      | (with_reducible exact ih0 _ _ _ _ _ _ _ _ _ _)
      | (with_reducible exact zone_Local.mono _ _ _ _ _ _ _ _ _ _ _ _)
      | (with_reducible exact zone_Offset.mono _ _ _ _ _ _ _ _ _ _ _ _)
      | (with_reducible exact LeO.refl _)
      | (with_reducible exact LeO.none _)
      | (with_reducible refine LeO.ite ?_ ?_)
      | (with_reducible refine LeO.bind ?_ (fun _ => ?_))
      | exact ih0 _ _ _ _ _ _ _ _ _ _
      | exact zone_Local.mono _ _ _ _ _ _ _ _ _ _ _ _
      | exact zone_Offset.mono _ _ _ _ _ _ _ _ _ _ _ _
      | exact LeO.none _
      | refine LeO.ite ?_ ?_
      | refine LeO.bind ?_ (fun _ => ?_)
set_option maxHeartbeats 8000000 in
set_option maxRecDepth 100000 in
theorem bellmantop_TopClocks.calls (k : Nat) (a0_0 : Int) (a0_1 : Int) (a0_2 : Int) (a0_3 : Int) (a0_4 : Int) (a0_5 : Int) (a0_6 : Int) (a0_7 : Int) (a0_8 : Int) (a0_9 : Int) (a1 : Int) (r : Bool) (w : World) (h : bellmantop_TopClocks.f k a0_0 a0_1 a0_2 a0_3 a0_4 a0_5 a0_6 a0_7 a0_8 a0_9 a1 = some r) (HG : GB w) :
    Calls Tryd.prog 3 #[.agg #[.int .i64 a0_0, .int .i64 a0_1, .int .i64 a0_2, .int .i64 a0_3, .int .i64 a0_4, .int .i64 a0_5, .int .i64 a0_6, .int .i64 a0_7, .int .i64 a0_8, .int .i64 a0_9], .int .i64 a1] w fun e w' => e = .returned (.bool r) ∧ Below w.heap.size w w' := by
  have hu25 := Tryd.underlying25
  have hu28 := Tryd.underlying28
  have HB := Aside0.mk (Below.refl w.heap.size w)
  have H : ((bellmantop_begins.f).bind fun t221 => (if t221 = true then ((zone_Local.f k a0_0 a0_1 a0_2 a0_3 a0_4 a0_5 a0_6 a0_7 a0_8 a0_9 a1).bind fun bt222 => ((zone_Offset.f k a0_0 a0_1 a0_2 a0_3 a0_4 a0_5 a0_6 a0_7 a0_8 a0_9 a1).bind fun bt231 => (if bt222.2.2.2.2.2.2.2 = 0 then (bellmantop_TopClocks.j0 k a1 bt231.1 (bt231.2 != 0) bt222.1 bt222.2.1 bt222.2.2.1 bt222.2.2.2.1 bt222.2.2.2.2.1 bt222.2.2.2.2.2.1 bt222.2.2.2.2.2.2.1) else (bellmantop_TopClocks.j0 k a1 bt231.1 true bt222.1 bt222.2.1 bt222.2.2.1 bt222.2.2.2.1 bt222.2.2.2.2.1 bt222.2.2.2.2.2.1 bt222.2.2.2.2.2.2.1)))) else (none))) = some r := h
  clear h
  replace H := Option.bind_eq_some_iff.mp H
  obtain ⟨t221, A30, H⟩ := H
  replace H : (if t221 = true then ((zone_Local.f k a0_0 a0_1 a0_2 a0_3 a0_4 a0_5 a0_6 a0_7 a0_8 a0_9 a1).bind fun bt222 => ((zone_Offset.f k a0_0 a0_1 a0_2 a0_3 a0_4 a0_5 a0_6 a0_7 a0_8 a0_9 a1).bind fun bt231 => (if bt222.2.2.2.2.2.2.2 = 0 then (bellmantop_TopClocks.j0 k a1 bt231.1 (bt231.2 != 0) bt222.1 bt222.2.1 bt222.2.2.1 bt222.2.2.2.1 bt222.2.2.2.2.1 bt222.2.2.2.2.2.1 bt222.2.2.2.2.2.2.1) else (bellmantop_TopClocks.j0 k a1 bt231.1 true bt222.1 bt222.2.1 bt222.2.2.1 bt222.2.2.2.1 bt222.2.2.2.2.1 bt222.2.2.2.2.2.1 bt222.2.2.2.2.2.2.1)))) else (none)) = some r := H
  have A3 := Aside0.mk A30
  clear A30
  by_cases c4 : t221 = true
  · subst c4
    have H1 : ((zone_Local.f k a0_0 a0_1 a0_2 a0_3 a0_4 a0_5 a0_6 a0_7 a0_8 a0_9 a1).bind fun bt222 => ((zone_Offset.f k a0_0 a0_1 a0_2 a0_3 a0_4 a0_5 a0_6 a0_7 a0_8 a0_9 a1).bind fun bt231 => (if bt222.2.2.2.2.2.2.2 = 0 then (bellmantop_TopClocks.j0 k a1 bt231.1 (bt231.2 != 0) bt222.1 bt222.2.1 bt222.2.2.1 bt222.2.2.2.1 bt222.2.2.2.2.1 bt222.2.2.2.2.2.1 bt222.2.2.2.2.2.2.1) else (bellmantop_TopClocks.j0 k a1 bt231.1 true bt222.1 bt222.2.1 bt222.2.2.1 bt222.2.2.2.1 bt222.2.2.2.2.1 bt222.2.2.2.2.2.1 bt222.2.2.2.2.2.2.1)))) = some r := by rw [if_pos rfl] at H; exact H
    clear H
    have H := H1
    clear H1
    replace H := Option.bind_eq_some_iff.mp H
    obtain ⟨⟨t222, t223, t224, t225, t226, t227, t228, t229⟩, A50, H⟩ := H
    replace H : ((zone_Offset.f k a0_0 a0_1 a0_2 a0_3 a0_4 a0_5 a0_6 a0_7 a0_8 a0_9 a1).bind fun bt231 => (if t229 = 0 then (bellmantop_TopClocks.j0 k a1 bt231.1 (bt231.2 != 0) t222 t223 t224 t225 t226 t227 t228) else (bellmantop_TopClocks.j0 k a1 bt231.1 true t222 t223 t224 t225 t226 t227 t228))) = some r := H
    have A5 := Aside0.mk A50
    clear A50
    replace H := Option.bind_eq_some_iff.mp H
    obtain ⟨⟨t231, t232⟩, A60, H⟩ := H
    replace H : (if t229 = 0 then (bellmantop_TopClocks.j0 k a1 t231 (t232 != 0) t222 t223 t224 t225 t226 t227 t228) else (bellmantop_TopClocks.j0 k a1 t231 true t222 t223 t224 t225 t226 t227 t228)) = some r := H
    have A6 := Aside0.mk A60
    clear A60
    have HC7 := Aside0.mk H
    clear H
    go_enter Tryd.func3, Tryd.ntmps3
    go_upto_region 5 with (first | ((with_reducible refine gate_dst (N := 2) rfl ?_); refine box_event ?hg (N := 2) ?hd (cs := #[.int .i64 a0_0, .int .i64 a0_1, .int .i64 a0_2, .int .i64 a0_3, .int .i64 a0_4, .int .i64 a0_5, .int .i64 a0_6, .int .i64 a0_7, .int .i64 a0_8, .int .i64 a0_9]) (t := 25) ?hr ?_; (case hd => rfl); (case hg => rfl); (case hr => first | (go_simp; done) | (go_simp; rfl)); intro gb220 hg w8 hbox hb; have n0_ := Aside0.mk (below_step (by repeat (first | (with_reducible first | exact HB.out | apply below_alloc | apply pw_below_drewN | apply below_drew1) | exact HB.out)) hb); have n1_ := Aside0.mk (hbox); have n2_ := Aside0.mk ((by rw [hg]; exact (below_size (by repeat (first | (with_reducible first | exact HB.out | apply below_alloc | apply pw_below_drewN | apply below_drew1) | exact HB.out))) : w.heap.size ≤ gb220)); have n3_ := Aside0.mk ((by rw [hg]; exact (below_size (by repeat (first | (with_reducible first | exact HB.out | apply below_alloc | apply pw_below_drewN | apply below_drew1) | exact HB.out))) : w.heap.size ≤ gb220)); clear HB; have HB := n0_; have BK220 := n1_; have GW220 := n2_; have GE220 := n3_; clear n0_ n1_ n2_ n3_; clear hb hbox hg) | ((with_reducible refine gate_callee (f := 4) rfl ?_); refine goesL_ (some 15) rfl rfl Tryd.func4 (by kernel_rfl) rfl #[] rfl (by (try simp only [List.map_toArray, List.map_cons, List.map_nil]); first | done | rfl | (simp only [List.length_drop, List.length_take]; rfl)) ?_; (with_reducible refine (bellmantop_begins.calls  true _ A3.out).mono ?_); rintro e w9 ⟨rfl, hb⟩; refine ⟨_, rfl, ?_⟩; have n0_ := Aside0.mk (blk_below (g := gb220) (o := .cells #[.int .i64 a0_0, .int .i64 a0_1, .int .i64 a0_2, .int .i64 a0_3, .int .i64 a0_4, .int .i64 a0_5, .int .i64 a0_6, .int .i64 a0_7, .int .i64 a0_8, .int .i64 a0_9] 25 (0, 0)) (by (with_reducible repeat (first | refine blk_drewN ?_ _ | refine blk_drew ?_ | refine blk_alloc ?_ _)); exact BK220.out) hb); have n1_ := Aside0.mk (below_step (by repeat (first | (with_reducible first | exact HB.out | apply below_alloc | apply pw_below_drewN | apply below_drew1 | refine below_set ?_ GE220.out) | exact HB.out)) hb); clear BK220; clear HB; have BK220 := n0_; have HB := n1_; clear n0_ n1_; (try clear hb); (try clear hb2); (try clear hk); (try clear hi); have hcz10_0 : w9.cell? ⟨gb220, 0, none⟩ = some (.int .i64 a0_0) := (blk_cell BK220.out 0).trans rfl; have hcz10_1 : w9.cell? ⟨gb220, 1, none⟩ = some (.int .i64 a0_1) := (blk_cell BK220.out 1).trans rfl; have hcz10_2 : w9.cell? ⟨gb220, 2, none⟩ = some (.int .i64 a0_2) := (blk_cell BK220.out 2).trans rfl; have hcz10_3 : w9.cell? ⟨gb220, 3, none⟩ = some (.int .i64 a0_3) := (blk_cell BK220.out 3).trans rfl; have hcz10_4 : w9.cell? ⟨gb220, 4, none⟩ = some (.int .i64 a0_4) := (blk_cell BK220.out 4).trans rfl; have hcz10_5 : w9.cell? ⟨gb220, 5, none⟩ = some (.int .i64 a0_5) := (blk_cell BK220.out 5).trans rfl; have hcz10_6 : w9.cell? ⟨gb220, 6, none⟩ = some (.int .i64 a0_6) := (blk_cell BK220.out 6).trans rfl; have hcz10_7 : w9.cell? ⟨gb220, 7, none⟩ = some (.int .i64 a0_7) := (blk_cell BK220.out 7).trans rfl; have hcz10_8 : w9.cell? ⟨gb220, 8, none⟩ = some (.int .i64 a0_8) := (blk_cell BK220.out 8).trans rfl; have hcz10_9 : w9.cell? ⟨gb220, 9, none⟩ = some (.int .i64 a0_9) := (blk_cell BK220.out 9).trans rfl; have hfz10_0 := blk_frozen BK220.out 0; have hfz10_1 := blk_frozen BK220.out 1; have hfz10_2 := blk_frozen BK220.out 2; have hfz10_3 := blk_frozen BK220.out 3; have hfz10_4 := blk_frozen BK220.out 4; have hfz10_5 := blk_frozen BK220.out 5; have hfz10_6 := blk_frozen BK220.out 6; have hfz10_7 := blk_frozen BK220.out 7; have hfz10_8 := blk_frozen BK220.out 8; have hfz10_9 := blk_frozen BK220.out 9) | ((with_reducible refine gate_callee (f := 5) rfl ?_); refine goesL_ (some 20) rfl rfl Tryd.func5 (by kernel_rfl) rfl #[.agg #[.int .i64 a0_0, .int .i64 a0_1, .int .i64 a0_2, .int .i64 a0_3, .int .i64 a0_4, .int .i64 a0_5, .int .i64 a0_6, .int .i64 a0_7, .int .i64 a0_8, .int .i64 a0_9], .int .i64 a1] rfl (by (try simp only [List.map_toArray, List.map_cons, List.map_nil]); first | done | rfl | (simp only [List.length_drop, List.length_take]; rfl)) ?_; (with_reducible refine (zone_Local.calls k a0_0 a0_1 a0_2 a0_3 a0_4 a0_5 a0_6 a0_7 a0_8 a0_9 a1 t222 t223 t224 t225 t226 t227 t228 t229 _ A5.out ?hg_).mono ?_); (case hg_ => first | ((with_reducible repeat (first | apply GB_drewN | apply GB_drew)); with_reducible exact HG) | exact GB_below HG (by repeat (first | (with_reducible first | exact HB.out | apply below_alloc | apply pw_below_drewN | apply below_drew1 | refine below_set ?_ GE220.out | refine below_set ?_ GE230.out) | exact HB.out))); rintro e w11 ⟨rfl, hb⟩; refine ⟨_, rfl, ?_⟩; have n0_ := Aside0.mk (blk_below (g := gb220) (o := .cells #[.int .i64 a0_0, .int .i64 a0_1, .int .i64 a0_2, .int .i64 a0_3, .int .i64 a0_4, .int .i64 a0_5, .int .i64 a0_6, .int .i64 a0_7, .int .i64 a0_8, .int .i64 a0_9] 25 (0, 0)) (by (with_reducible repeat (first | refine blk_drewN ?_ _ | refine blk_drew ?_ | refine blk_alloc ?_ _)); exact BK220.out) hb); have n1_ := Aside0.mk (below_step (by repeat (first | (with_reducible first | exact HB.out | apply below_alloc | apply pw_below_drewN | apply below_drew1 | refine below_set ?_ GE220.out) | exact HB.out)) hb); clear BK220; clear HB; have BK220 := n0_; have HB := n1_; clear n0_ n1_; (try clear hb); (try clear hb2); (try clear hk); (try clear hi)) | ((with_reducible refine gate_dst (N := 5) rfl ?_); refine box_event ?hg (N := 5) ?hd (cs := #[.int .i64 0, .int .i64 0, .int .i64 0, .int .i64 0, .int .i64 0, .int .i64 0, .int .i64 0]) (t := 28) ?hr ?_; (case hd => rfl); (case hg => rfl); (case hr => first | (go_simp; done) | (go_simp; rfl)); intro gb230 hg w12 hbox hb; have n0_ := Aside0.mk (blk_below (g := gb220) (o := .cells #[.int .i64 a0_0, .int .i64 a0_1, .int .i64 a0_2, .int .i64 a0_3, .int .i64 a0_4, .int .i64 a0_5, .int .i64 a0_6, .int .i64 a0_7, .int .i64 a0_8, .int .i64 a0_9] 25 (0, 0)) (by (with_reducible repeat (first | refine blk_drewN ?_ _ | refine blk_drew ?_ | refine blk_alloc ?_ _)); exact BK220.out) hb); have n1_ := Aside0.mk (below_step (by repeat (first | (with_reducible first | exact HB.out | apply below_alloc | apply pw_below_drewN | apply below_drew1 | refine below_set ?_ GE220.out) | exact HB.out)) hb); have n2_ := Aside0.mk (hbox); have n3_ := Aside0.mk ((by rw [hg]; exact (below_size (by repeat (first | (with_reducible first | exact HB.out | apply below_alloc | apply pw_below_drewN | apply below_drew1 | refine below_set ?_ GE220.out) | exact HB.out))) : w.heap.size ≤ gb230)); have n4_ := Aside0.mk ((by rw [hg]; exact (below_size (by repeat (first | (with_reducible first | exact HB.out | apply below_alloc | apply pw_below_drewN | apply below_drew1 | refine below_set ?_ GE220.out) | exact HB.out))) : w.heap.size ≤ gb230)); have n5_ := Aside0.mk ((by rw [hg]; exact Nat.ne_of_lt (blk_lt (g := gb220) (o := .cells #[.int .i64 a0_0, .int .i64 a0_1, .int .i64 a0_2, .int .i64 a0_3, .int .i64 a0_4, .int .i64 a0_5, .int .i64 a0_6, .int .i64 a0_7, .int .i64 a0_8, .int .i64 a0_9] 25 (0, 0)) (by (with_reducible repeat (first | refine blk_drewN ?_ _ | refine blk_drew ?_ | refine blk_alloc ?_ _)); exact BK220.out)) : gb220 ≠ gb230)); have n6_ := Aside0.mk ((by rw [hg]; exact Nat.ne_of_gt (blk_lt (g := gb220) (o := .cells #[.int .i64 a0_0, .int .i64 a0_1, .int .i64 a0_2, .int .i64 a0_3, .int .i64 a0_4, .int .i64 a0_5, .int .i64 a0_6, .int .i64 a0_7, .int .i64 a0_8, .int .i64 a0_9] 25 (0, 0)) (by (with_reducible repeat (first | refine blk_drewN ?_ _ | refine blk_drew ?_ | refine blk_alloc ?_ _)); exact BK220.out)) : gb230 ≠ gb220)); clear BK220; clear HB; have BK220 := n0_; have HB := n1_; have BK230 := n2_; have GW230 := n3_; have GE230 := n4_; have NB220_230 := n5_; have NB230_220 := n6_; clear n0_ n1_ n2_ n3_ n4_ n5_ n6_; clear hb hbox hg; have hnb13 := NB230_220.out; have hnc13 := NB220_230.out; have hcz14_0 : w12.cell? ⟨gb230, 0, none⟩ = some (.int .i64 0) := (blk_cell BK230.out 0).trans rfl; have hcz14_1 : w12.cell? ⟨gb230, 1, none⟩ = some (.int .i64 0) := (blk_cell BK230.out 1).trans rfl; have hcz14_2 : w12.cell? ⟨gb230, 2, none⟩ = some (.int .i64 0) := (blk_cell BK230.out 2).trans rfl; have hcz14_3 : w12.cell? ⟨gb230, 3, none⟩ = some (.int .i64 0) := (blk_cell BK230.out 3).trans rfl; have hcz14_4 : w12.cell? ⟨gb230, 4, none⟩ = some (.int .i64 0) := (blk_cell BK230.out 4).trans rfl; have hcz14_5 : w12.cell? ⟨gb230, 5, none⟩ = some (.int .i64 0) := (blk_cell BK230.out 5).trans rfl; have hcz14_6 : w12.cell? ⟨gb230, 6, none⟩ = some (.int .i64 0) := (blk_cell BK230.out 6).trans rfl; have hfz14_0 := blk_frozen BK230.out 0; have hfz14_1 := blk_frozen BK230.out 1; have hfz14_2 := blk_frozen BK230.out 2; have hfz14_3 := blk_frozen BK230.out 3; have hfz14_4 := blk_frozen BK230.out 4; have hfz14_5 := blk_frozen BK230.out 5; have hfz14_6 := blk_frozen BK230.out 6; have hcz15_0 : w12.cell? ⟨gb220, 0, none⟩ = some (.int .i64 a0_0) := (blk_cell BK220.out 0).trans rfl; have hcz15_1 : w12.cell? ⟨gb220, 1, none⟩ = some (.int .i64 a0_1) := (blk_cell BK220.out 1).trans rfl; have hcz15_2 : w12.cell? ⟨gb220, 2, none⟩ = some (.int .i64 a0_2) := (blk_cell BK220.out 2).trans rfl; have hcz15_3 : w12.cell? ⟨gb220, 3, none⟩ = some (.int .i64 a0_3) := (blk_cell BK220.out 3).trans rfl; have hcz15_4 : w12.cell? ⟨gb220, 4, none⟩ = some (.int .i64 a0_4) := (blk_cell BK220.out 4).trans rfl; have hcz15_5 : w12.cell? ⟨gb220, 5, none⟩ = some (.int .i64 a0_5) := (blk_cell BK220.out 5).trans rfl; have hcz15_6 : w12.cell? ⟨gb220, 6, none⟩ = some (.int .i64 a0_6) := (blk_cell BK220.out 6).trans rfl; have hcz15_7 : w12.cell? ⟨gb220, 7, none⟩ = some (.int .i64 a0_7) := (blk_cell BK220.out 7).trans rfl; have hcz15_8 : w12.cell? ⟨gb220, 8, none⟩ = some (.int .i64 a0_8) := (blk_cell BK220.out 8).trans rfl; have hcz15_9 : w12.cell? ⟨gb220, 9, none⟩ = some (.int .i64 a0_9) := (blk_cell BK220.out 9).trans rfl; have hfz15_0 := blk_frozen BK220.out 0; have hfz15_1 := blk_frozen BK220.out 1; have hfz15_2 := blk_frozen BK220.out 2; have hfz15_3 := blk_frozen BK220.out 3; have hfz15_4 := blk_frozen BK220.out 4; have hfz15_5 := blk_frozen BK220.out 5; have hfz15_6 := blk_frozen BK220.out 6; have hfz15_7 := blk_frozen BK220.out 7; have hfz15_8 := blk_frozen BK220.out 8; have hfz15_9 := blk_frozen BK220.out 9) | ((with_reducible refine gate_callee (f := 6) rfl ?_); refine goesL_ (some 26) rfl rfl Tryd.func6 (by kernel_rfl) rfl #[.agg #[.int .i64 a0_0, .int .i64 a0_1, .int .i64 a0_2, .int .i64 a0_3, .int .i64 a0_4, .int .i64 a0_5, .int .i64 a0_6, .int .i64 a0_7, .int .i64 a0_8, .int .i64 a0_9], .int .i64 a1] rfl (by (try simp only [List.map_toArray, List.map_cons, List.map_nil]); first | done | rfl | (simp only [List.length_drop, List.length_take]; rfl)) ?_; (with_reducible refine (zone_Offset.calls k a0_0 a0_1 a0_2 a0_3 a0_4 a0_5 a0_6 a0_7 a0_8 a0_9 a1 t231 t232 _ A6.out ?hg_).mono ?_); (case hg_ => first | ((with_reducible repeat (first | apply GB_drewN | apply GB_drew)); with_reducible exact HG) | exact GB_below HG (by repeat (first | (with_reducible first | exact HB.out | apply below_alloc | apply pw_below_drewN | apply below_drew1 | refine below_set ?_ GE220.out | refine below_set ?_ GE230.out) | exact HB.out))); rintro e w16 ⟨rfl, hb⟩; refine ⟨_, rfl, ?_⟩; have n0_ := Aside0.mk (blk_below (g := gb220) (o := .cells #[.int .i64 a0_0, .int .i64 a0_1, .int .i64 a0_2, .int .i64 a0_3, .int .i64 a0_4, .int .i64 a0_5, .int .i64 a0_6, .int .i64 a0_7, .int .i64 a0_8, .int .i64 a0_9] 25 (0, 0)) (by (with_reducible repeat (first | refine blk_drewN ?_ _ | refine blk_drew ?_ | refine blk_alloc ?_ _)); refine blk_far ?_ NB220_230.out _; (with_reducible repeat (first | refine blk_drewN ?_ _ | refine blk_drew ?_ | refine blk_alloc ?_ _)); refine blk_far ?_ NB220_230.out _; (with_reducible repeat (first | refine blk_drewN ?_ _ | refine blk_drew ?_ | refine blk_alloc ?_ _)); refine blk_far ?_ NB220_230.out _; (with_reducible repeat (first | refine blk_drewN ?_ _ | refine blk_drew ?_ | refine blk_alloc ?_ _)); refine blk_far ?_ NB220_230.out _; (with_reducible repeat (first | refine blk_drewN ?_ _ | refine blk_drew ?_ | refine blk_alloc ?_ _)); refine blk_far ?_ NB220_230.out _; (with_reducible repeat (first | refine blk_drewN ?_ _ | refine blk_drew ?_ | refine blk_alloc ?_ _)); refine blk_far ?_ NB220_230.out _; (with_reducible repeat (first | refine blk_drewN ?_ _ | refine blk_drew ?_ | refine blk_alloc ?_ _)); refine blk_far ?_ NB220_230.out _; (with_reducible repeat (first | refine blk_drewN ?_ _ | refine blk_drew ?_ | refine blk_alloc ?_ _)); exact BK220.out) hb); have n1_ := Aside0.mk (blk_below (g := gb230) (o := .cells #[.int .i64 t222, .int .i64 t223, .int .i64 t224, .int .i64 t225, .int .i64 t226, .int .i64 t227, .int .i64 t228] 28 (0, 0)) (by (with_reducible repeat (first | refine blk_drewN ?_ _ | refine blk_drew ?_ | refine blk_alloc ?_ _)); refine blk_put (cs := #[.int .i64 t222, .int .i64 t223, .int .i64 t224, .int .i64 t225, .int .i64 t226, .int .i64 t227, .int .i64 0]) ?_ 6 _ rfl; (with_reducible repeat (first | refine blk_drewN ?_ _ | refine blk_drew ?_ | refine blk_alloc ?_ _)); refine blk_put (cs := #[.int .i64 t222, .int .i64 t223, .int .i64 t224, .int .i64 t225, .int .i64 t226, .int .i64 0, .int .i64 0]) ?_ 5 _ rfl; (with_reducible repeat (first | refine blk_drewN ?_ _ | refine blk_drew ?_ | refine blk_alloc ?_ _)); refine blk_put (cs := #[.int .i64 t222, .int .i64 t223, .int .i64 t224, .int .i64 t225, .int .i64 0, .int .i64 0, .int .i64 0]) ?_ 4 _ rfl; (with_reducible repeat (first | refine blk_drewN ?_ _ | refine blk_drew ?_ | refine blk_alloc ?_ _)); refine blk_put (cs := #[.int .i64 t222, .int .i64 t223, .int .i64 t224, .int .i64 0, .int .i64 0, .int .i64 0, .int .i64 0]) ?_ 3 _ rfl; (with_reducible repeat (first | refine blk_drewN ?_ _ | refine blk_drew ?_ | refine blk_alloc ?_ _)); refine blk_put (cs := #[.int .i64 t222, .int .i64 t223, .int .i64 0, .int .i64 0, .int .i64 0, .int .i64 0, .int .i64 0]) ?_ 2 _ rfl; (with_reducible repeat (first | refine blk_drewN ?_ _ | refine blk_drew ?_ | refine blk_alloc ?_ _)); refine blk_put (cs := #[.int .i64 t222, .int .i64 0, .int .i64 0, .int .i64 0, .int .i64 0, .int .i64 0, .int .i64 0]) ?_ 1 _ rfl; (with_reducible repeat (first | refine blk_drewN ?_ _ | refine blk_drew ?_ | refine blk_alloc ?_ _)); refine blk_put (cs := #[.int .i64 0, .int .i64 0, .int .i64 0, .int .i64 0, .int .i64 0, .int .i64 0, .int .i64 0]) ?_ 0 _ rfl; (with_reducible repeat (first | refine blk_drewN ?_ _ | refine blk_drew ?_ | refine blk_alloc ?_ _)); exact BK230.out) hb); have n2_ := Aside0.mk (below_step (by repeat (first | (with_reducible first | exact HB.out | apply below_alloc | apply pw_below_drewN | apply below_drew1 | refine below_set ?_ GE220.out | refine below_set ?_ GE230.out) | exact HB.out)) hb); clear BK220; clear BK230; clear HB; have BK220 := n0_; have BK230 := n1_; have HB := n2_; clear n0_ n1_ n2_; (try clear hb); (try clear hb2); (try clear hk); (try clear hi)))
    (try simp only [Act.put, List.setIfInBounds_toArray, List.set_cons_zero, List.set_cons_succ])
    go_cut [34] (fun v34 wc => ∃ (kq : Nat) (x34_6 : Bool), v34 = .bool x34_6 ∧ Aside0 (bellmantop_TopClocks.j0 kq a1 t231 x34_6 t222 t223 t224 t225 t226 t227 t228 = some r) ∧ Aside0 (kq ≤ k) ∧ Aside0 (wc.heap[gb220]? = some (.cells #[.int .i64 a0_0, .int .i64 a0_1, .int .i64 a0_2, .int .i64 a0_3, .int .i64 a0_4, .int .i64 a0_5, .int .i64 a0_6, .int .i64 a0_7, .int .i64 a0_8, .int .i64 a0_9] 25 (0, 0))) ∧ Aside0 (wc.heap[gb230]? = some (.cells #[.int .i64 t222, .int .i64 t223, .int .i64 t224, .int .i64 t225, .int .i64 t226, .int .i64 t227, .int .i64 t228] 28 (0, 0))) ∧ Aside0 (Below w.heap.size w wc))
    case first =>
      have H := HC7.out
      clear HC7
      by_cases c17 : t229 = 0
      · rw [if_pos c17] at H
        have c17b0 : (t229 == 0) = true := beq_iff_eq.mpr c17
        have c17b1 : (t229 != 0) = false := bne_eq_false_iff_eq.mpr c17
        clear c17
        (first | rw [c17b0] | (simp only [i64_w, i32_w]; rw [c17b0]) | skip)
        have H' := Aside0.mk H
        clear H
        go_wp2
        go_meet
        case rel => exact ⟨_, ((t232 != 0)), (by first | rfl | (simp; done) | (simp [*]; done)), H', ⟨by first | omega | exact Nat.le_refl _⟩, ⟨by (with_reducible repeat (first | refine blk_drewN ?_ _ | refine blk_drew ?_ | refine blk_alloc ?_ _)); exact BK220.out⟩, ⟨by (with_reducible repeat (first | refine blk_drewN ?_ _ | refine blk_drew ?_ | refine blk_alloc ?_ _)); exact BK230.out⟩, ⟨by repeat (first | (with_reducible first | exact HB.out | apply below_alloc | apply pw_below_drewN | apply below_drew1 | refine below_set ?_ GE220.out | refine below_set ?_ GE230.out) | exact HB.out)⟩⟩
      · rw [if_neg c17] at H
        have c17b0 : (t229 == 0) = false := beq_eq_false_iff_ne.mpr c17
        have c17b1 : (t229 != 0) = true := bne_iff_ne.mpr c17
        (first | rw [c17b0] | (simp only [i64_w, i32_w]; rw [c17b0]) | skip)
        have H' := Aside0.mk H
        clear H
        go_wp2
        go_meet
        case rel => exact ⟨_, (true), (by first | rfl | (simp; done) | (simp [*]; done)), H', ⟨by first | omega | exact Nat.le_refl _⟩, ⟨by (with_reducible repeat (first | refine blk_drewN ?_ _ | refine blk_drew ?_ | refine blk_alloc ?_ _)); exact BK220.out⟩, ⟨by (with_reducible repeat (first | refine blk_drewN ?_ _ | refine blk_drew ?_ | refine blk_alloc ?_ _)); exact BK230.out⟩, ⟨by repeat (first | (with_reducible first | exact HB.out | apply below_alloc | apply pw_below_drewN | apply below_drew1 | refine below_set ?_ GE220.out | refine below_set ?_ GE230.out) | exact HB.out)⟩⟩
    case rest =>
      clear HC7
      try clear c1
      try clear p2
      try clear c3
      try clear c4
      try clear c5
      try clear c6
      try clear c13
      try clear c17
      try clear c17b0
      try clear c17b1
      try clear hcz10_0
      try clear hcz10_1
      try clear hcz10_2
      try clear hcz10_3
      try clear hcz10_4
      try clear hcz10_5
      try clear hcz10_6
      try clear hcz10_7
      try clear hcz10_8
      try clear hcz10_9
      try clear hcz14_0
      try clear hcz14_1
      try clear hcz14_2
      try clear hcz14_3
      try clear hcz14_4
      try clear hcz14_5
      try clear hcz14_6
      try clear hcz15_0
      try clear hcz15_1
      try clear hcz15_2
      try clear hcz15_3
      try clear hcz15_4
      try clear hcz15_5
      try clear hcz15_6
      try clear hcz15_7
      try clear hcz15_8
      try clear hcz15_9
      try clear hfz10_0
      try clear hfz10_1
      try clear hfz10_2
      try clear hfz10_3
      try clear hfz10_4
      try clear hfz10_5
      try clear hfz10_6
      try clear hfz10_7
      try clear hfz10_8
      try clear hfz10_9
      try clear hfz14_0
      try clear hfz14_1
      try clear hfz14_2
      try clear hfz14_3
      try clear hfz14_4
      try clear hfz14_5
      try clear hfz14_6
      try clear hfz15_0
      try clear hfz15_1
      try clear hfz15_2
      try clear hfz15_3
      try clear hfz15_4
      try clear hfz15_5
      try clear hfz15_6
      try clear hfz15_7
      try clear hfz15_8
      try clear hfz15_9
      obtain ⟨kq, x34_6, rfl, HA, HJ6, BK220, BK230, HB⟩ := hcut
      cases kq with
      | zero => exact absurd HA.out (by simp [bellmantop_TopClocks.j0])
      | succ kj6 =>
        have H := HA.out
        clear HA
        simp only [bellmantop_TopClocks.j0] at H
        by_cases c18 : x34_6 = true
        · subst c18
          have H1 : (some (t222 == 0 && (t223 == 0 && (t224 == 0 && (t225 == 0 && (t226 == 0 && (t227 == 0 && (t228 == 0)))))))) = some r := by rw [if_pos rfl] at H; exact H
          clear H
          have H := H1
          clear H1
          obtain rfl := Option.some.inj H
          have hnb19 := NB230_220.out
          have hnc19 := NB220_230.out
          have hcz20_0 : wc.cell? ⟨gb230, 0, none⟩ = some (.int .i64 t222) := (blk_cell BK230.out 0).trans rfl
          have hcz20_1 : wc.cell? ⟨gb230, 1, none⟩ = some (.int .i64 t223) := (blk_cell BK230.out 1).trans rfl
          have hcz20_2 : wc.cell? ⟨gb230, 2, none⟩ = some (.int .i64 t224) := (blk_cell BK230.out 2).trans rfl
          have hcz20_3 : wc.cell? ⟨gb230, 3, none⟩ = some (.int .i64 t225) := (blk_cell BK230.out 3).trans rfl
          have hcz20_4 : wc.cell? ⟨gb230, 4, none⟩ = some (.int .i64 t226) := (blk_cell BK230.out 4).trans rfl
          have hcz20_5 : wc.cell? ⟨gb230, 5, none⟩ = some (.int .i64 t227) := (blk_cell BK230.out 5).trans rfl
          have hcz20_6 : wc.cell? ⟨gb230, 6, none⟩ = some (.int .i64 t228) := (blk_cell BK230.out 6).trans rfl
          have hfz20_0 := blk_frozen BK230.out 0
          have hfz20_1 := blk_frozen BK230.out 1
          have hfz20_2 := blk_frozen BK230.out 2
          have hfz20_3 := blk_frozen BK230.out 3
          have hfz20_4 := blk_frozen BK230.out 4
          have hfz20_5 := blk_frozen BK230.out 5
          have hfz20_6 := blk_frozen BK230.out 6
          go_wp2
          go_ret
          exact ⟨by first | rfl | (simp [errW_none, errW_some] <;> rfl) | (simp [*, errW_none, errW_some] <;> rfl), by repeat (first | (with_reducible first | exact HB.out | apply below_alloc | apply pw_below_drewN | apply below_drew1 | refine below_set ?_ GE220.out | refine below_set ?_ GE230.out) | exact HB.out)⟩
        · replace c18 := Bool.eq_false_iff.mpr c18
          subst c18
          have H1 : ((civil_Time.f t222 t223 t224 t225 t226 t227 t228).bind fun bt233 => ((civil_Weekday.f t222 t223 t224).bind fun bt235 => ((civil_Week.f bt233.1).bind fun bt237 => (if bt233.2 = 0 then (if (wrap64 (bt233.1 - a1)) = (wrap64 (60 * t231)) then (if bt235.2 = 0 then (if bt235.1 = t228 then (if bt237.2 = 0 then (some (bt237.1 == (wrap64 ((wrap64 ((wrap64 (1440 * t228)) + (wrap64 (60 * t225)))) + t226)))) else (some false)) else (some false)) else (some false)) else (some false)) else (some false))))) = some r := by rw [if_neg (show ¬ (false = true) by decide)] at H; exact H
          clear H
          have H := H1
          clear H1
          replace H := Option.bind_eq_some_iff.mp H
          obtain ⟨⟨t233, t234⟩, A210, H⟩ := H
          replace H : ((civil_Weekday.f t222 t223 t224).bind fun bt235 => ((civil_Week.f t233).bind fun bt237 => (if t234 = 0 then (if (wrap64 (t233 - a1)) = (wrap64 (60 * t231)) then (if bt235.2 = 0 then (if bt235.1 = t228 then (if bt237.2 = 0 then (some (bt237.1 == (wrap64 ((wrap64 ((wrap64 (1440 * t228)) + (wrap64 (60 * t225)))) + t226)))) else (some false)) else (some false)) else (some false)) else (some false)) else (some false)))) = some r := H
          have A21 := Aside0.mk A210
          clear A210
          replace H := Option.bind_eq_some_iff.mp H
          obtain ⟨⟨t235, t236⟩, A220, H⟩ := H
          replace H : ((civil_Week.f t233).bind fun bt237 => (if t234 = 0 then (if (wrap64 (t233 - a1)) = (wrap64 (60 * t231)) then (if t236 = 0 then (if t235 = t228 then (if bt237.2 = 0 then (some (bt237.1 == (wrap64 ((wrap64 ((wrap64 (1440 * t228)) + (wrap64 (60 * t225)))) + t226)))) else (some false)) else (some false)) else (some false)) else (some false)) else (some false))) = some r := H
          have A22 := Aside0.mk A220
          clear A220
          replace H := Option.bind_eq_some_iff.mp H
          obtain ⟨⟨t237, t238⟩, A230, H⟩ := H
          replace H : (if t234 = 0 then (if (wrap64 (t233 - a1)) = (wrap64 (60 * t231)) then (if t236 = 0 then (if t235 = t228 then (if t238 = 0 then (some (t237 == (wrap64 ((wrap64 ((wrap64 (1440 * t228)) + (wrap64 (60 * t225)))) + t226)))) else (some false)) else (some false)) else (some false)) else (some false)) else (some false)) = some r := H
          have A23 := Aside0.mk A230
          clear A230
          by_cases c24 : t234 = 0
          · rw [if_pos c24] at H
            have c24b0 : (t234 == 0) = true := beq_iff_eq.mpr c24
            have c24b1 : (t234 != 0) = false := bne_eq_false_iff_eq.mpr c24
            clear c24
            by_cases c25 : (wrap64 (t233 - a1)) = (wrap64 (60 * t231))
            · rw [if_pos c25] at H
              have c25b0 : ((wrap64 (t233 - a1)) == (wrap64 (60 * t231))) = true := beq_iff_eq.mpr c25
              have c25b1 : ((wrap64 (t233 - a1)) != (wrap64 (60 * t231))) = false := bne_eq_false_iff_eq.mpr c25
              clear c25
              by_cases c26 : t236 = 0
              · rw [if_pos c26] at H
                have c26b0 : (t236 == 0) = true := beq_iff_eq.mpr c26
                have c26b1 : (t236 != 0) = false := bne_eq_false_iff_eq.mpr c26
                clear c26
                by_cases c27 : t235 = t228
                · rw [if_pos c27] at H
                  have c27b0 : (t235 == t228) = true := beq_iff_eq.mpr c27
                  have c27b1 : (t235 != t228) = false := bne_eq_false_iff_eq.mpr c27
                  clear c27
                  by_cases c28 : t238 = 0
                  · rw [if_pos c28] at H
                    have c28b0 : (t238 == 0) = true := beq_iff_eq.mpr c28
                    have c28b1 : (t238 != 0) = false := bne_eq_false_iff_eq.mpr c28
                    clear c28
                    obtain rfl := Option.some.inj H
                    have hnb29 := NB230_220.out
                    have hnc29 := NB220_230.out
                    have hcz30_0 : wc.cell? ⟨gb230, 0, none⟩ = some (.int .i64 t222) := (blk_cell BK230.out 0).trans rfl
                    have hcz30_1 : wc.cell? ⟨gb230, 1, none⟩ = some (.int .i64 t223) := (blk_cell BK230.out 1).trans rfl
                    have hcz30_2 : wc.cell? ⟨gb230, 2, none⟩ = some (.int .i64 t224) := (blk_cell BK230.out 2).trans rfl
                    have hcz30_3 : wc.cell? ⟨gb230, 3, none⟩ = some (.int .i64 t225) := (blk_cell BK230.out 3).trans rfl
                    have hcz30_4 : wc.cell? ⟨gb230, 4, none⟩ = some (.int .i64 t226) := (blk_cell BK230.out 4).trans rfl
                    have hcz30_5 : wc.cell? ⟨gb230, 5, none⟩ = some (.int .i64 t227) := (blk_cell BK230.out 5).trans rfl
                    have hcz30_6 : wc.cell? ⟨gb230, 6, none⟩ = some (.int .i64 t228) := (blk_cell BK230.out 6).trans rfl
                    have hfz30_0 := blk_frozen BK230.out 0
                    have hfz30_1 := blk_frozen BK230.out 1
                    have hfz30_2 := blk_frozen BK230.out 2
                    have hfz30_3 := blk_frozen BK230.out 3
                    have hfz30_4 := blk_frozen BK230.out 4
                    have hfz30_5 := blk_frozen BK230.out 5
                    have hfz30_6 := blk_frozen BK230.out 6
                    go_wp2_with (first | ((with_reducible refine gate_callee (f := 7) rfl ?_); refine goesL_ (some 40) rfl rfl Tryd.func7 (by kernel_rfl) rfl #[.agg #[.int .i64 t222, .int .i64 t223, .int .i64 t224, .int .i64 t225, .int .i64 t226, .int .i64 t227, .int .i64 t228]] rfl (by (try simp only [List.map_toArray, List.map_cons, List.map_nil]); first | done | rfl | (simp only [List.length_drop, List.length_take]; rfl)) ?_; (with_reducible refine (civil_Time.calls t222 t223 t224 t225 t226 t227 t228 t233 t234 _ A21.out ?hg_).mono ?_); (case hg_ => first | ((with_reducible repeat (first | apply GB_drewN | apply GB_drew)); with_reducible exact HG) | exact GB_below HG (by repeat (first | (with_reducible first | exact HB.out | apply below_alloc | apply pw_below_drewN | apply below_drew1 | refine below_set ?_ GE220.out | refine below_set ?_ GE230.out) | exact HB.out))); rintro e w31 ⟨rfl, hb⟩; refine ⟨_, rfl, ?_⟩; have n0_ := Aside0.mk (blk_below (g := gb220) (o := .cells #[.int .i64 a0_0, .int .i64 a0_1, .int .i64 a0_2, .int .i64 a0_3, .int .i64 a0_4, .int .i64 a0_5, .int .i64 a0_6, .int .i64 a0_7, .int .i64 a0_8, .int .i64 a0_9] 25 (0, 0)) (by (with_reducible repeat (first | refine blk_drewN ?_ _ | refine blk_drew ?_ | refine blk_alloc ?_ _)); exact BK220.out) hb); have n1_ := Aside0.mk (blk_below (g := gb230) (o := .cells #[.int .i64 t222, .int .i64 t223, .int .i64 t224, .int .i64 t225, .int .i64 t226, .int .i64 t227, .int .i64 t228] 28 (0, 0)) (by (with_reducible repeat (first | refine blk_drewN ?_ _ | refine blk_drew ?_ | refine blk_alloc ?_ _)); exact BK230.out) hb); have n2_ := Aside0.mk (below_step (by repeat (first | (with_reducible first | exact HB.out | apply below_alloc | apply pw_below_drewN | apply below_drew1 | refine below_set ?_ GE220.out | refine below_set ?_ GE230.out) | exact HB.out)) hb); clear BK220; clear BK230; clear HB; have BK220 := n0_; have BK230 := n1_; have HB := n2_; clear n0_ n1_ n2_; (try clear hb); (try clear hb2); (try clear hk); (try clear hi); have hcz32_0 : w31.cell? ⟨gb230, 0, none⟩ = some (.int .i64 t222) := (blk_cell BK230.out 0).trans rfl; have hcz32_1 : w31.cell? ⟨gb230, 1, none⟩ = some (.int .i64 t223) := (blk_cell BK230.out 1).trans rfl; have hcz32_2 : w31.cell? ⟨gb230, 2, none⟩ = some (.int .i64 t224) := (blk_cell BK230.out 2).trans rfl; have hcz32_3 : w31.cell? ⟨gb230, 3, none⟩ = some (.int .i64 t225) := (blk_cell BK230.out 3).trans rfl; have hcz32_4 : w31.cell? ⟨gb230, 4, none⟩ = some (.int .i64 t226) := (blk_cell BK230.out 4).trans rfl; have hcz32_5 : w31.cell? ⟨gb230, 5, none⟩ = some (.int .i64 t227) := (blk_cell BK230.out 5).trans rfl; have hcz32_6 : w31.cell? ⟨gb230, 6, none⟩ = some (.int .i64 t228) := (blk_cell BK230.out 6).trans rfl; have hfz32_0 := blk_frozen BK230.out 0; have hfz32_1 := blk_frozen BK230.out 1; have hfz32_2 := blk_frozen BK230.out 2; have hfz32_3 := blk_frozen BK230.out 3; have hfz32_4 := blk_frozen BK230.out 4; have hfz32_5 := blk_frozen BK230.out 5; have hfz32_6 := blk_frozen BK230.out 6) | ((with_reducible refine gate_callee (f := 8) rfl ?_); refine goesL_ (some 50) rfl rfl Tryd.func8 (by kernel_rfl) rfl #[.int .i64 t222, .int .i64 t223, .int .i64 t224] rfl (by (try simp only [List.map_toArray, List.map_cons, List.map_nil]); first | done | rfl | (simp only [List.length_drop, List.length_take]; rfl)) ?_; (with_reducible refine (civil_Weekday.calls t222 t223 t224 t235 t236 _ A22.out ?hg_).mono ?_); (case hg_ => first | ((with_reducible repeat (first | apply GB_drewN | apply GB_drew)); with_reducible exact HG) | exact GB_below HG (by repeat (first | (with_reducible first | exact HB.out | apply below_alloc | apply pw_below_drewN | apply below_drew1 | refine below_set ?_ GE220.out | refine below_set ?_ GE230.out) | exact HB.out))); rintro e w' ⟨rfl, ⟨nd, rfl⟩⟩; refine ⟨_, rfl, ?_⟩) | ((with_reducible refine gate_callee (f := 9) rfl ?_); refine goesL_ (some 55) rfl rfl Tryd.func9 (by kernel_rfl) rfl #[.int .i64 t233] rfl (by (try simp only [List.map_toArray, List.map_cons, List.map_nil]); first | done | rfl | (simp only [List.length_drop, List.length_take]; rfl)) ?_; (with_reducible refine (civil_Week.calls t233 t237 t238 _ A23.out).mono ?_); rintro e w' ⟨rfl, ⟨nd, rfl⟩⟩; refine ⟨_, rfl, ?_⟩))
                    go_ret
                    exact ⟨by first | rfl | (simp [errW_none, errW_some] <;> rfl) | (simp [*, errW_none, errW_some] <;> rfl), by repeat (first | (with_reducible first | exact HB.out | apply below_alloc | apply pw_below_drewN | apply below_drew1 | refine below_set ?_ GE220.out | refine below_set ?_ GE230.out) | exact HB.out)⟩
                  · rw [if_neg c28] at H
                    have c28b0 : (t238 == 0) = false := beq_eq_false_iff_ne.mpr c28
                    have c28b1 : (t238 != 0) = true := bne_iff_ne.mpr c28
                    obtain rfl := Option.some.inj H
                    have hnb33 := NB230_220.out
                    have hnc33 := NB220_230.out
                    have hcz34_0 : wc.cell? ⟨gb230, 0, none⟩ = some (.int .i64 t222) := (blk_cell BK230.out 0).trans rfl
                    have hcz34_1 : wc.cell? ⟨gb230, 1, none⟩ = some (.int .i64 t223) := (blk_cell BK230.out 1).trans rfl
                    have hcz34_2 : wc.cell? ⟨gb230, 2, none⟩ = some (.int .i64 t224) := (blk_cell BK230.out 2).trans rfl
                    have hcz34_3 : wc.cell? ⟨gb230, 3, none⟩ = some (.int .i64 t225) := (blk_cell BK230.out 3).trans rfl
                    have hcz34_4 : wc.cell? ⟨gb230, 4, none⟩ = some (.int .i64 t226) := (blk_cell BK230.out 4).trans rfl
                    have hcz34_5 : wc.cell? ⟨gb230, 5, none⟩ = some (.int .i64 t227) := (blk_cell BK230.out 5).trans rfl
                    have hcz34_6 : wc.cell? ⟨gb230, 6, none⟩ = some (.int .i64 t228) := (blk_cell BK230.out 6).trans rfl
                    have hfz34_0 := blk_frozen BK230.out 0
                    have hfz34_1 := blk_frozen BK230.out 1
                    have hfz34_2 := blk_frozen BK230.out 2
                    have hfz34_3 := blk_frozen BK230.out 3
                    have hfz34_4 := blk_frozen BK230.out 4
                    have hfz34_5 := blk_frozen BK230.out 5
                    have hfz34_6 := blk_frozen BK230.out 6
                    go_wp2_with (first | ((with_reducible refine gate_callee (f := 7) rfl ?_); refine goesL_ (some 40) rfl rfl Tryd.func7 (by kernel_rfl) rfl #[.agg #[.int .i64 t222, .int .i64 t223, .int .i64 t224, .int .i64 t225, .int .i64 t226, .int .i64 t227, .int .i64 t228]] rfl (by (try simp only [List.map_toArray, List.map_cons, List.map_nil]); first | done | rfl | (simp only [List.length_drop, List.length_take]; rfl)) ?_; (with_reducible refine (civil_Time.calls t222 t223 t224 t225 t226 t227 t228 t233 t234 _ A21.out ?hg_).mono ?_); (case hg_ => first | ((with_reducible repeat (first | apply GB_drewN | apply GB_drew)); with_reducible exact HG) | exact GB_below HG (by repeat (first | (with_reducible first | exact HB.out | apply below_alloc | apply pw_below_drewN | apply below_drew1 | refine below_set ?_ GE220.out | refine below_set ?_ GE230.out) | exact HB.out))); rintro e w35 ⟨rfl, hb⟩; refine ⟨_, rfl, ?_⟩; have n0_ := Aside0.mk (blk_below (g := gb220) (o := .cells #[.int .i64 a0_0, .int .i64 a0_1, .int .i64 a0_2, .int .i64 a0_3, .int .i64 a0_4, .int .i64 a0_5, .int .i64 a0_6, .int .i64 a0_7, .int .i64 a0_8, .int .i64 a0_9] 25 (0, 0)) (by (with_reducible repeat (first | refine blk_drewN ?_ _ | refine blk_drew ?_ | refine blk_alloc ?_ _)); exact BK220.out) hb); have n1_ := Aside0.mk (blk_below (g := gb230) (o := .cells #[.int .i64 t222, .int .i64 t223, .int .i64 t224, .int .i64 t225, .int .i64 t226, .int .i64 t227, .int .i64 t228] 28 (0, 0)) (by (with_reducible repeat (first | refine blk_drewN ?_ _ | refine blk_drew ?_ | refine blk_alloc ?_ _)); exact BK230.out) hb); have n2_ := Aside0.mk (below_step (by repeat (first | (with_reducible first | exact HB.out | apply below_alloc | apply pw_below_drewN | apply below_drew1 | refine below_set ?_ GE220.out | refine below_set ?_ GE230.out) | exact HB.out)) hb); clear BK220; clear BK230; clear HB; have BK220 := n0_; have BK230 := n1_; have HB := n2_; clear n0_ n1_ n2_; (try clear hb); (try clear hb2); (try clear hk); (try clear hi); have hcz36_0 : w35.cell? ⟨gb230, 0, none⟩ = some (.int .i64 t222) := (blk_cell BK230.out 0).trans rfl; have hcz36_1 : w35.cell? ⟨gb230, 1, none⟩ = some (.int .i64 t223) := (blk_cell BK230.out 1).trans rfl; have hcz36_2 : w35.cell? ⟨gb230, 2, none⟩ = some (.int .i64 t224) := (blk_cell BK230.out 2).trans rfl; have hcz36_3 : w35.cell? ⟨gb230, 3, none⟩ = some (.int .i64 t225) := (blk_cell BK230.out 3).trans rfl; have hcz36_4 : w35.cell? ⟨gb230, 4, none⟩ = some (.int .i64 t226) := (blk_cell BK230.out 4).trans rfl; have hcz36_5 : w35.cell? ⟨gb230, 5, none⟩ = some (.int .i64 t227) := (blk_cell BK230.out 5).trans rfl; have hcz36_6 : w35.cell? ⟨gb230, 6, none⟩ = some (.int .i64 t228) := (blk_cell BK230.out 6).trans rfl; have hfz36_0 := blk_frozen BK230.out 0; have hfz36_1 := blk_frozen BK230.out 1; have hfz36_2 := blk_frozen BK230.out 2; have hfz36_3 := blk_frozen BK230.out 3; have hfz36_4 := blk_frozen BK230.out 4; have hfz36_5 := blk_frozen BK230.out 5; have hfz36_6 := blk_frozen BK230.out 6) | ((with_reducible refine gate_callee (f := 8) rfl ?_); refine goesL_ (some 50) rfl rfl Tryd.func8 (by kernel_rfl) rfl #[.int .i64 t222, .int .i64 t223, .int .i64 t224] rfl (by (try simp only [List.map_toArray, List.map_cons, List.map_nil]); first | done | rfl | (simp only [List.length_drop, List.length_take]; rfl)) ?_; (with_reducible refine (civil_Weekday.calls t222 t223 t224 t235 t236 _ A22.out ?hg_).mono ?_); (case hg_ => first | ((with_reducible repeat (first | apply GB_drewN | apply GB_drew)); with_reducible exact HG) | exact GB_below HG (by repeat (first | (with_reducible first | exact HB.out | apply below_alloc | apply pw_below_drewN | apply below_drew1 | refine below_set ?_ GE220.out | refine below_set ?_ GE230.out) | exact HB.out))); rintro e w' ⟨rfl, ⟨nd, rfl⟩⟩; refine ⟨_, rfl, ?_⟩) | ((with_reducible refine gate_callee (f := 9) rfl ?_); refine goesL_ (some 55) rfl rfl Tryd.func9 (by kernel_rfl) rfl #[.int .i64 t233] rfl (by (try simp only [List.map_toArray, List.map_cons, List.map_nil]); first | done | rfl | (simp only [List.length_drop, List.length_take]; rfl)) ?_; (with_reducible refine (civil_Week.calls t233 t237 t238 _ A23.out).mono ?_); rintro e w' ⟨rfl, ⟨nd, rfl⟩⟩; refine ⟨_, rfl, ?_⟩))
                    go_ret
                    exact ⟨by first | rfl | (simp [errW_none, errW_some] <;> rfl) | (simp [*, errW_none, errW_some] <;> rfl), by repeat (first | (with_reducible first | exact HB.out | apply below_alloc | apply pw_below_drewN | apply below_drew1 | refine below_set ?_ GE220.out | refine below_set ?_ GE230.out) | exact HB.out)⟩
                · rw [if_neg c27] at H
                  have c27b0 : (t235 == t228) = false := beq_eq_false_iff_ne.mpr c27
                  have c27b1 : (t235 != t228) = true := bne_iff_ne.mpr c27
                  obtain rfl := Option.some.inj H
                  have hnb37 := NB230_220.out
                  have hnc37 := NB220_230.out
                  have hcz38_0 : wc.cell? ⟨gb230, 0, none⟩ = some (.int .i64 t222) := (blk_cell BK230.out 0).trans rfl
                  have hcz38_1 : wc.cell? ⟨gb230, 1, none⟩ = some (.int .i64 t223) := (blk_cell BK230.out 1).trans rfl
                  have hcz38_2 : wc.cell? ⟨gb230, 2, none⟩ = some (.int .i64 t224) := (blk_cell BK230.out 2).trans rfl
                  have hcz38_3 : wc.cell? ⟨gb230, 3, none⟩ = some (.int .i64 t225) := (blk_cell BK230.out 3).trans rfl
                  have hcz38_4 : wc.cell? ⟨gb230, 4, none⟩ = some (.int .i64 t226) := (blk_cell BK230.out 4).trans rfl
                  have hcz38_5 : wc.cell? ⟨gb230, 5, none⟩ = some (.int .i64 t227) := (blk_cell BK230.out 5).trans rfl
                  have hcz38_6 : wc.cell? ⟨gb230, 6, none⟩ = some (.int .i64 t228) := (blk_cell BK230.out 6).trans rfl
                  have hfz38_0 := blk_frozen BK230.out 0
                  have hfz38_1 := blk_frozen BK230.out 1
                  have hfz38_2 := blk_frozen BK230.out 2
                  have hfz38_3 := blk_frozen BK230.out 3
                  have hfz38_4 := blk_frozen BK230.out 4
                  have hfz38_5 := blk_frozen BK230.out 5
                  have hfz38_6 := blk_frozen BK230.out 6
                  go_wp2_with (first | ((with_reducible refine gate_callee (f := 7) rfl ?_); refine goesL_ (some 40) rfl rfl Tryd.func7 (by kernel_rfl) rfl #[.agg #[.int .i64 t222, .int .i64 t223, .int .i64 t224, .int .i64 t225, .int .i64 t226, .int .i64 t227, .int .i64 t228]] rfl (by (try simp only [List.map_toArray, List.map_cons, List.map_nil]); first | done | rfl | (simp only [List.length_drop, List.length_take]; rfl)) ?_; (with_reducible refine (civil_Time.calls t222 t223 t224 t225 t226 t227 t228 t233 t234 _ A21.out ?hg_).mono ?_); (case hg_ => first | ((with_reducible repeat (first | apply GB_drewN | apply GB_drew)); with_reducible exact HG) | exact GB_below HG (by repeat (first | (with_reducible first | exact HB.out | apply below_alloc | apply pw_below_drewN | apply below_drew1 | refine below_set ?_ GE220.out | refine below_set ?_ GE230.out) | exact HB.out))); rintro e w39 ⟨rfl, hb⟩; refine ⟨_, rfl, ?_⟩; have n0_ := Aside0.mk (blk_below (g := gb220) (o := .cells #[.int .i64 a0_0, .int .i64 a0_1, .int .i64 a0_2, .int .i64 a0_3, .int .i64 a0_4, .int .i64 a0_5, .int .i64 a0_6, .int .i64 a0_7, .int .i64 a0_8, .int .i64 a0_9] 25 (0, 0)) (by (with_reducible repeat (first | refine blk_drewN ?_ _ | refine blk_drew ?_ | refine blk_alloc ?_ _)); exact BK220.out) hb); have n1_ := Aside0.mk (blk_below (g := gb230) (o := .cells #[.int .i64 t222, .int .i64 t223, .int .i64 t224, .int .i64 t225, .int .i64 t226, .int .i64 t227, .int .i64 t228] 28 (0, 0)) (by (with_reducible repeat (first | refine blk_drewN ?_ _ | refine blk_drew ?_ | refine blk_alloc ?_ _)); exact BK230.out) hb); have n2_ := Aside0.mk (below_step (by repeat (first | (with_reducible first | exact HB.out | apply below_alloc | apply pw_below_drewN | apply below_drew1 | refine below_set ?_ GE220.out | refine below_set ?_ GE230.out) | exact HB.out)) hb); clear BK220; clear BK230; clear HB; have BK220 := n0_; have BK230 := n1_; have HB := n2_; clear n0_ n1_ n2_; (try clear hb); (try clear hb2); (try clear hk); (try clear hi); have hcz40_0 : w39.cell? ⟨gb230, 0, none⟩ = some (.int .i64 t222) := (blk_cell BK230.out 0).trans rfl; have hcz40_1 : w39.cell? ⟨gb230, 1, none⟩ = some (.int .i64 t223) := (blk_cell BK230.out 1).trans rfl; have hcz40_2 : w39.cell? ⟨gb230, 2, none⟩ = some (.int .i64 t224) := (blk_cell BK230.out 2).trans rfl; have hcz40_3 : w39.cell? ⟨gb230, 3, none⟩ = some (.int .i64 t225) := (blk_cell BK230.out 3).trans rfl; have hcz40_4 : w39.cell? ⟨gb230, 4, none⟩ = some (.int .i64 t226) := (blk_cell BK230.out 4).trans rfl; have hcz40_5 : w39.cell? ⟨gb230, 5, none⟩ = some (.int .i64 t227) := (blk_cell BK230.out 5).trans rfl; have hcz40_6 : w39.cell? ⟨gb230, 6, none⟩ = some (.int .i64 t228) := (blk_cell BK230.out 6).trans rfl; have hfz40_0 := blk_frozen BK230.out 0; have hfz40_1 := blk_frozen BK230.out 1; have hfz40_2 := blk_frozen BK230.out 2; have hfz40_3 := blk_frozen BK230.out 3; have hfz40_4 := blk_frozen BK230.out 4; have hfz40_5 := blk_frozen BK230.out 5; have hfz40_6 := blk_frozen BK230.out 6) | ((with_reducible refine gate_callee (f := 8) rfl ?_); refine goesL_ (some 50) rfl rfl Tryd.func8 (by kernel_rfl) rfl #[.int .i64 t222, .int .i64 t223, .int .i64 t224] rfl (by (try simp only [List.map_toArray, List.map_cons, List.map_nil]); first | done | rfl | (simp only [List.length_drop, List.length_take]; rfl)) ?_; (with_reducible refine (civil_Weekday.calls t222 t223 t224 t235 t236 _ A22.out ?hg_).mono ?_); (case hg_ => first | ((with_reducible repeat (first | apply GB_drewN | apply GB_drew)); with_reducible exact HG) | exact GB_below HG (by repeat (first | (with_reducible first | exact HB.out | apply below_alloc | apply pw_below_drewN | apply below_drew1 | refine below_set ?_ GE220.out | refine below_set ?_ GE230.out) | exact HB.out))); rintro e w' ⟨rfl, ⟨nd, rfl⟩⟩; refine ⟨_, rfl, ?_⟩) | ((with_reducible refine gate_callee (f := 9) rfl ?_); refine goesL_ (some 55) rfl rfl Tryd.func9 (by kernel_rfl) rfl #[.int .i64 t233] rfl (by (try simp only [List.map_toArray, List.map_cons, List.map_nil]); first | done | rfl | (simp only [List.length_drop, List.length_take]; rfl)) ?_; (with_reducible refine (civil_Week.calls t233 t237 t238 _ A23.out).mono ?_); rintro e w' ⟨rfl, ⟨nd, rfl⟩⟩; refine ⟨_, rfl, ?_⟩))
                  go_ret
                  exact ⟨by first | rfl | (simp [errW_none, errW_some] <;> rfl) | (simp [*, errW_none, errW_some] <;> rfl), by repeat (first | (with_reducible first | exact HB.out | apply below_alloc | apply pw_below_drewN | apply below_drew1 | refine below_set ?_ GE220.out | refine below_set ?_ GE230.out) | exact HB.out)⟩
              · rw [if_neg c26] at H
                have c26b0 : (t236 == 0) = false := beq_eq_false_iff_ne.mpr c26
                have c26b1 : (t236 != 0) = true := bne_iff_ne.mpr c26
                obtain rfl := Option.some.inj H
                have hnb41 := NB230_220.out
                have hnc41 := NB220_230.out
                have hcz42_0 : wc.cell? ⟨gb230, 0, none⟩ = some (.int .i64 t222) := (blk_cell BK230.out 0).trans rfl
                have hcz42_1 : wc.cell? ⟨gb230, 1, none⟩ = some (.int .i64 t223) := (blk_cell BK230.out 1).trans rfl
                have hcz42_2 : wc.cell? ⟨gb230, 2, none⟩ = some (.int .i64 t224) := (blk_cell BK230.out 2).trans rfl
                have hcz42_3 : wc.cell? ⟨gb230, 3, none⟩ = some (.int .i64 t225) := (blk_cell BK230.out 3).trans rfl
                have hcz42_4 : wc.cell? ⟨gb230, 4, none⟩ = some (.int .i64 t226) := (blk_cell BK230.out 4).trans rfl
                have hcz42_5 : wc.cell? ⟨gb230, 5, none⟩ = some (.int .i64 t227) := (blk_cell BK230.out 5).trans rfl
                have hcz42_6 : wc.cell? ⟨gb230, 6, none⟩ = some (.int .i64 t228) := (blk_cell BK230.out 6).trans rfl
                have hfz42_0 := blk_frozen BK230.out 0
                have hfz42_1 := blk_frozen BK230.out 1
                have hfz42_2 := blk_frozen BK230.out 2
                have hfz42_3 := blk_frozen BK230.out 3
                have hfz42_4 := blk_frozen BK230.out 4
                have hfz42_5 := blk_frozen BK230.out 5
                have hfz42_6 := blk_frozen BK230.out 6
                go_wp2_with (first | ((with_reducible refine gate_callee (f := 7) rfl ?_); refine goesL_ (some 40) rfl rfl Tryd.func7 (by kernel_rfl) rfl #[.agg #[.int .i64 t222, .int .i64 t223, .int .i64 t224, .int .i64 t225, .int .i64 t226, .int .i64 t227, .int .i64 t228]] rfl (by (try simp only [List.map_toArray, List.map_cons, List.map_nil]); first | done | rfl | (simp only [List.length_drop, List.length_take]; rfl)) ?_; (with_reducible refine (civil_Time.calls t222 t223 t224 t225 t226 t227 t228 t233 t234 _ A21.out ?hg_).mono ?_); (case hg_ => first | ((with_reducible repeat (first | apply GB_drewN | apply GB_drew)); with_reducible exact HG) | exact GB_below HG (by repeat (first | (with_reducible first | exact HB.out | apply below_alloc | apply pw_below_drewN | apply below_drew1 | refine below_set ?_ GE220.out | refine below_set ?_ GE230.out) | exact HB.out))); rintro e w43 ⟨rfl, hb⟩; refine ⟨_, rfl, ?_⟩; have n0_ := Aside0.mk (blk_below (g := gb220) (o := .cells #[.int .i64 a0_0, .int .i64 a0_1, .int .i64 a0_2, .int .i64 a0_3, .int .i64 a0_4, .int .i64 a0_5, .int .i64 a0_6, .int .i64 a0_7, .int .i64 a0_8, .int .i64 a0_9] 25 (0, 0)) (by (with_reducible repeat (first | refine blk_drewN ?_ _ | refine blk_drew ?_ | refine blk_alloc ?_ _)); exact BK220.out) hb); have n1_ := Aside0.mk (blk_below (g := gb230) (o := .cells #[.int .i64 t222, .int .i64 t223, .int .i64 t224, .int .i64 t225, .int .i64 t226, .int .i64 t227, .int .i64 t228] 28 (0, 0)) (by (with_reducible repeat (first | refine blk_drewN ?_ _ | refine blk_drew ?_ | refine blk_alloc ?_ _)); exact BK230.out) hb); have n2_ := Aside0.mk (below_step (by repeat (first | (with_reducible first | exact HB.out | apply below_alloc | apply pw_below_drewN | apply below_drew1 | refine below_set ?_ GE220.out | refine below_set ?_ GE230.out) | exact HB.out)) hb); clear BK220; clear BK230; clear HB; have BK220 := n0_; have BK230 := n1_; have HB := n2_; clear n0_ n1_ n2_; (try clear hb); (try clear hb2); (try clear hk); (try clear hi); have hcz44_0 : w43.cell? ⟨gb230, 0, none⟩ = some (.int .i64 t222) := (blk_cell BK230.out 0).trans rfl; have hcz44_1 : w43.cell? ⟨gb230, 1, none⟩ = some (.int .i64 t223) := (blk_cell BK230.out 1).trans rfl; have hcz44_2 : w43.cell? ⟨gb230, 2, none⟩ = some (.int .i64 t224) := (blk_cell BK230.out 2).trans rfl; have hcz44_3 : w43.cell? ⟨gb230, 3, none⟩ = some (.int .i64 t225) := (blk_cell BK230.out 3).trans rfl; have hcz44_4 : w43.cell? ⟨gb230, 4, none⟩ = some (.int .i64 t226) := (blk_cell BK230.out 4).trans rfl; have hcz44_5 : w43.cell? ⟨gb230, 5, none⟩ = some (.int .i64 t227) := (blk_cell BK230.out 5).trans rfl; have hcz44_6 : w43.cell? ⟨gb230, 6, none⟩ = some (.int .i64 t228) := (blk_cell BK230.out 6).trans rfl; have hfz44_0 := blk_frozen BK230.out 0; have hfz44_1 := blk_frozen BK230.out 1; have hfz44_2 := blk_frozen BK230.out 2; have hfz44_3 := blk_frozen BK230.out 3; have hfz44_4 := blk_frozen BK230.out 4; have hfz44_5 := blk_frozen BK230.out 5; have hfz44_6 := blk_frozen BK230.out 6) | ((with_reducible refine gate_callee (f := 8) rfl ?_); refine goesL_ (some 50) rfl rfl Tryd.func8 (by kernel_rfl) rfl #[.int .i64 t222, .int .i64 t223, .int .i64 t224] rfl (by (try simp only [List.map_toArray, List.map_cons, List.map_nil]); first | done | rfl | (simp only [List.length_drop, List.length_take]; rfl)) ?_; (with_reducible refine (civil_Weekday.calls t222 t223 t224 t235 t236 _ A22.out ?hg_).mono ?_); (case hg_ => first | ((with_reducible repeat (first | apply GB_drewN | apply GB_drew)); with_reducible exact HG) | exact GB_below HG (by repeat (first | (with_reducible first | exact HB.out | apply below_alloc | apply pw_below_drewN | apply below_drew1 | refine below_set ?_ GE220.out | refine below_set ?_ GE230.out) | exact HB.out))); rintro e w' ⟨rfl, ⟨nd, rfl⟩⟩; refine ⟨_, rfl, ?_⟩) | ((with_reducible refine gate_callee (f := 9) rfl ?_); refine goesL_ (some 55) rfl rfl Tryd.func9 (by kernel_rfl) rfl #[.int .i64 t233] rfl (by (try simp only [List.map_toArray, List.map_cons, List.map_nil]); first | done | rfl | (simp only [List.length_drop, List.length_take]; rfl)) ?_; (with_reducible refine (civil_Week.calls t233 t237 t238 _ A23.out).mono ?_); rintro e w' ⟨rfl, ⟨nd, rfl⟩⟩; refine ⟨_, rfl, ?_⟩))
                go_ret
                exact ⟨by first | rfl | (simp [errW_none, errW_some] <;> rfl) | (simp [*, errW_none, errW_some] <;> rfl), by repeat (first | (with_reducible first | exact HB.out | apply below_alloc | apply pw_below_drewN | apply below_drew1 | refine below_set ?_ GE220.out | refine below_set ?_ GE230.out) | exact HB.out)⟩
            · rw [if_neg c25] at H
              have c25b0 : ((wrap64 (t233 - a1)) == (wrap64 (60 * t231))) = false := beq_eq_false_iff_ne.mpr c25
              have c25b1 : ((wrap64 (t233 - a1)) != (wrap64 (60 * t231))) = true := bne_iff_ne.mpr c25
              obtain rfl := Option.some.inj H
              have hnb45 := NB230_220.out
              have hnc45 := NB220_230.out
              have hcz46_0 : wc.cell? ⟨gb230, 0, none⟩ = some (.int .i64 t222) := (blk_cell BK230.out 0).trans rfl
              have hcz46_1 : wc.cell? ⟨gb230, 1, none⟩ = some (.int .i64 t223) := (blk_cell BK230.out 1).trans rfl
              have hcz46_2 : wc.cell? ⟨gb230, 2, none⟩ = some (.int .i64 t224) := (blk_cell BK230.out 2).trans rfl
              have hcz46_3 : wc.cell? ⟨gb230, 3, none⟩ = some (.int .i64 t225) := (blk_cell BK230.out 3).trans rfl
              have hcz46_4 : wc.cell? ⟨gb230, 4, none⟩ = some (.int .i64 t226) := (blk_cell BK230.out 4).trans rfl
              have hcz46_5 : wc.cell? ⟨gb230, 5, none⟩ = some (.int .i64 t227) := (blk_cell BK230.out 5).trans rfl
              have hcz46_6 : wc.cell? ⟨gb230, 6, none⟩ = some (.int .i64 t228) := (blk_cell BK230.out 6).trans rfl
              have hfz46_0 := blk_frozen BK230.out 0
              have hfz46_1 := blk_frozen BK230.out 1
              have hfz46_2 := blk_frozen BK230.out 2
              have hfz46_3 := blk_frozen BK230.out 3
              have hfz46_4 := blk_frozen BK230.out 4
              have hfz46_5 := blk_frozen BK230.out 5
              have hfz46_6 := blk_frozen BK230.out 6
              go_wp2_with (first | ((with_reducible refine gate_callee (f := 7) rfl ?_); refine goesL_ (some 40) rfl rfl Tryd.func7 (by kernel_rfl) rfl #[.agg #[.int .i64 t222, .int .i64 t223, .int .i64 t224, .int .i64 t225, .int .i64 t226, .int .i64 t227, .int .i64 t228]] rfl (by (try simp only [List.map_toArray, List.map_cons, List.map_nil]); first | done | rfl | (simp only [List.length_drop, List.length_take]; rfl)) ?_; (with_reducible refine (civil_Time.calls t222 t223 t224 t225 t226 t227 t228 t233 t234 _ A21.out ?hg_).mono ?_); (case hg_ => first | ((with_reducible repeat (first | apply GB_drewN | apply GB_drew)); with_reducible exact HG) | exact GB_below HG (by repeat (first | (with_reducible first | exact HB.out | apply below_alloc | apply pw_below_drewN | apply below_drew1 | refine below_set ?_ GE220.out | refine below_set ?_ GE230.out) | exact HB.out))); rintro e w47 ⟨rfl, hb⟩; refine ⟨_, rfl, ?_⟩; have n0_ := Aside0.mk (blk_below (g := gb220) (o := .cells #[.int .i64 a0_0, .int .i64 a0_1, .int .i64 a0_2, .int .i64 a0_3, .int .i64 a0_4, .int .i64 a0_5, .int .i64 a0_6, .int .i64 a0_7, .int .i64 a0_8, .int .i64 a0_9] 25 (0, 0)) (by (with_reducible repeat (first | refine blk_drewN ?_ _ | refine blk_drew ?_ | refine blk_alloc ?_ _)); exact BK220.out) hb); have n1_ := Aside0.mk (blk_below (g := gb230) (o := .cells #[.int .i64 t222, .int .i64 t223, .int .i64 t224, .int .i64 t225, .int .i64 t226, .int .i64 t227, .int .i64 t228] 28 (0, 0)) (by (with_reducible repeat (first | refine blk_drewN ?_ _ | refine blk_drew ?_ | refine blk_alloc ?_ _)); exact BK230.out) hb); have n2_ := Aside0.mk (below_step (by repeat (first | (with_reducible first | exact HB.out | apply below_alloc | apply pw_below_drewN | apply below_drew1 | refine below_set ?_ GE220.out | refine below_set ?_ GE230.out) | exact HB.out)) hb); clear BK220; clear BK230; clear HB; have BK220 := n0_; have BK230 := n1_; have HB := n2_; clear n0_ n1_ n2_; (try clear hb); (try clear hb2); (try clear hk); (try clear hi); have hcz48_0 : w47.cell? ⟨gb230, 0, none⟩ = some (.int .i64 t222) := (blk_cell BK230.out 0).trans rfl; have hcz48_1 : w47.cell? ⟨gb230, 1, none⟩ = some (.int .i64 t223) := (blk_cell BK230.out 1).trans rfl; have hcz48_2 : w47.cell? ⟨gb230, 2, none⟩ = some (.int .i64 t224) := (blk_cell BK230.out 2).trans rfl; have hcz48_3 : w47.cell? ⟨gb230, 3, none⟩ = some (.int .i64 t225) := (blk_cell BK230.out 3).trans rfl; have hcz48_4 : w47.cell? ⟨gb230, 4, none⟩ = some (.int .i64 t226) := (blk_cell BK230.out 4).trans rfl; have hcz48_5 : w47.cell? ⟨gb230, 5, none⟩ = some (.int .i64 t227) := (blk_cell BK230.out 5).trans rfl; have hcz48_6 : w47.cell? ⟨gb230, 6, none⟩ = some (.int .i64 t228) := (blk_cell BK230.out 6).trans rfl; have hfz48_0 := blk_frozen BK230.out 0; have hfz48_1 := blk_frozen BK230.out 1; have hfz48_2 := blk_frozen BK230.out 2; have hfz48_3 := blk_frozen BK230.out 3; have hfz48_4 := blk_frozen BK230.out 4; have hfz48_5 := blk_frozen BK230.out 5; have hfz48_6 := blk_frozen BK230.out 6) | ((with_reducible refine gate_callee (f := 8) rfl ?_); refine goesL_ (some 50) rfl rfl Tryd.func8 (by kernel_rfl) rfl #[.int .i64 t222, .int .i64 t223, .int .i64 t224] rfl (by (try simp only [List.map_toArray, List.map_cons, List.map_nil]); first | done | rfl | (simp only [List.length_drop, List.length_take]; rfl)) ?_; (with_reducible refine (civil_Weekday.calls t222 t223 t224 t235 t236 _ A22.out ?hg_).mono ?_); (case hg_ => first | ((with_reducible repeat (first | apply GB_drewN | apply GB_drew)); with_reducible exact HG) | exact GB_below HG (by repeat (first | (with_reducible first | exact HB.out | apply below_alloc | apply pw_below_drewN | apply below_drew1 | refine below_set ?_ GE220.out | refine below_set ?_ GE230.out) | exact HB.out))); rintro e w' ⟨rfl, ⟨nd, rfl⟩⟩; refine ⟨_, rfl, ?_⟩) | ((with_reducible refine gate_callee (f := 9) rfl ?_); refine goesL_ (some 55) rfl rfl Tryd.func9 (by kernel_rfl) rfl #[.int .i64 t233] rfl (by (try simp only [List.map_toArray, List.map_cons, List.map_nil]); first | done | rfl | (simp only [List.length_drop, List.length_take]; rfl)) ?_; (with_reducible refine (civil_Week.calls t233 t237 t238 _ A23.out).mono ?_); rintro e w' ⟨rfl, ⟨nd, rfl⟩⟩; refine ⟨_, rfl, ?_⟩))
              go_ret
              exact ⟨by first | rfl | (simp [errW_none, errW_some] <;> rfl) | (simp [*, errW_none, errW_some] <;> rfl), by repeat (first | (with_reducible first | exact HB.out | apply below_alloc | apply pw_below_drewN | apply below_drew1 | refine below_set ?_ GE220.out | refine below_set ?_ GE230.out) | exact HB.out)⟩
          · rw [if_neg c24] at H
            have c24b0 : (t234 == 0) = false := beq_eq_false_iff_ne.mpr c24
            have c24b1 : (t234 != 0) = true := bne_iff_ne.mpr c24
            obtain rfl := Option.some.inj H
            have hnb49 := NB230_220.out
            have hnc49 := NB220_230.out
            have hcz50_0 : wc.cell? ⟨gb230, 0, none⟩ = some (.int .i64 t222) := (blk_cell BK230.out 0).trans rfl
            have hcz50_1 : wc.cell? ⟨gb230, 1, none⟩ = some (.int .i64 t223) := (blk_cell BK230.out 1).trans rfl
            have hcz50_2 : wc.cell? ⟨gb230, 2, none⟩ = some (.int .i64 t224) := (blk_cell BK230.out 2).trans rfl
            have hcz50_3 : wc.cell? ⟨gb230, 3, none⟩ = some (.int .i64 t225) := (blk_cell BK230.out 3).trans rfl
            have hcz50_4 : wc.cell? ⟨gb230, 4, none⟩ = some (.int .i64 t226) := (blk_cell BK230.out 4).trans rfl
            have hcz50_5 : wc.cell? ⟨gb230, 5, none⟩ = some (.int .i64 t227) := (blk_cell BK230.out 5).trans rfl
            have hcz50_6 : wc.cell? ⟨gb230, 6, none⟩ = some (.int .i64 t228) := (blk_cell BK230.out 6).trans rfl
            have hfz50_0 := blk_frozen BK230.out 0
            have hfz50_1 := blk_frozen BK230.out 1
            have hfz50_2 := blk_frozen BK230.out 2
            have hfz50_3 := blk_frozen BK230.out 3
            have hfz50_4 := blk_frozen BK230.out 4
            have hfz50_5 := blk_frozen BK230.out 5
            have hfz50_6 := blk_frozen BK230.out 6
            go_wp2_with (first | ((with_reducible refine gate_callee (f := 7) rfl ?_); refine goesL_ (some 40) rfl rfl Tryd.func7 (by kernel_rfl) rfl #[.agg #[.int .i64 t222, .int .i64 t223, .int .i64 t224, .int .i64 t225, .int .i64 t226, .int .i64 t227, .int .i64 t228]] rfl (by (try simp only [List.map_toArray, List.map_cons, List.map_nil]); first | done | rfl | (simp only [List.length_drop, List.length_take]; rfl)) ?_; (with_reducible refine (civil_Time.calls t222 t223 t224 t225 t226 t227 t228 t233 t234 _ A21.out ?hg_).mono ?_); (case hg_ => first | ((with_reducible repeat (first | apply GB_drewN | apply GB_drew)); with_reducible exact HG) | exact GB_below HG (by repeat (first | (with_reducible first | exact HB.out | apply below_alloc | apply pw_below_drewN | apply below_drew1 | refine below_set ?_ GE220.out | refine below_set ?_ GE230.out) | exact HB.out))); rintro e w51 ⟨rfl, hb⟩; refine ⟨_, rfl, ?_⟩; have n0_ := Aside0.mk (blk_below (g := gb220) (o := .cells #[.int .i64 a0_0, .int .i64 a0_1, .int .i64 a0_2, .int .i64 a0_3, .int .i64 a0_4, .int .i64 a0_5, .int .i64 a0_6, .int .i64 a0_7, .int .i64 a0_8, .int .i64 a0_9] 25 (0, 0)) (by (with_reducible repeat (first | refine blk_drewN ?_ _ | refine blk_drew ?_ | refine blk_alloc ?_ _)); exact BK220.out) hb); have n1_ := Aside0.mk (blk_below (g := gb230) (o := .cells #[.int .i64 t222, .int .i64 t223, .int .i64 t224, .int .i64 t225, .int .i64 t226, .int .i64 t227, .int .i64 t228] 28 (0, 0)) (by (with_reducible repeat (first | refine blk_drewN ?_ _ | refine blk_drew ?_ | refine blk_alloc ?_ _)); exact BK230.out) hb); have n2_ := Aside0.mk (below_step (by repeat (first | (with_reducible first | exact HB.out | apply below_alloc | apply pw_below_drewN | apply below_drew1 | refine below_set ?_ GE220.out | refine below_set ?_ GE230.out) | exact HB.out)) hb); clear BK220; clear BK230; clear HB; have BK220 := n0_; have BK230 := n1_; have HB := n2_; clear n0_ n1_ n2_; (try clear hb); (try clear hb2); (try clear hk); (try clear hi); have hcz52_0 : w51.cell? ⟨gb230, 0, none⟩ = some (.int .i64 t222) := (blk_cell BK230.out 0).trans rfl; have hcz52_1 : w51.cell? ⟨gb230, 1, none⟩ = some (.int .i64 t223) := (blk_cell BK230.out 1).trans rfl; have hcz52_2 : w51.cell? ⟨gb230, 2, none⟩ = some (.int .i64 t224) := (blk_cell BK230.out 2).trans rfl; have hcz52_3 : w51.cell? ⟨gb230, 3, none⟩ = some (.int .i64 t225) := (blk_cell BK230.out 3).trans rfl; have hcz52_4 : w51.cell? ⟨gb230, 4, none⟩ = some (.int .i64 t226) := (blk_cell BK230.out 4).trans rfl; have hcz52_5 : w51.cell? ⟨gb230, 5, none⟩ = some (.int .i64 t227) := (blk_cell BK230.out 5).trans rfl; have hcz52_6 : w51.cell? ⟨gb230, 6, none⟩ = some (.int .i64 t228) := (blk_cell BK230.out 6).trans rfl; have hfz52_0 := blk_frozen BK230.out 0; have hfz52_1 := blk_frozen BK230.out 1; have hfz52_2 := blk_frozen BK230.out 2; have hfz52_3 := blk_frozen BK230.out 3; have hfz52_4 := blk_frozen BK230.out 4; have hfz52_5 := blk_frozen BK230.out 5; have hfz52_6 := blk_frozen BK230.out 6) | ((with_reducible refine gate_callee (f := 8) rfl ?_); refine goesL_ (some 50) rfl rfl Tryd.func8 (by kernel_rfl) rfl #[.int .i64 t222, .int .i64 t223, .int .i64 t224] rfl (by (try simp only [List.map_toArray, List.map_cons, List.map_nil]); first | done | rfl | (simp only [List.length_drop, List.length_take]; rfl)) ?_; (with_reducible refine (civil_Weekday.calls t222 t223 t224 t235 t236 _ A22.out ?hg_).mono ?_); (case hg_ => first | ((with_reducible repeat (first | apply GB_drewN | apply GB_drew)); with_reducible exact HG) | exact GB_below HG (by repeat (first | (with_reducible first | exact HB.out | apply below_alloc | apply pw_below_drewN | apply below_drew1 | refine below_set ?_ GE220.out | refine below_set ?_ GE230.out) | exact HB.out))); rintro e w' ⟨rfl, ⟨nd, rfl⟩⟩; refine ⟨_, rfl, ?_⟩) | ((with_reducible refine gate_callee (f := 9) rfl ?_); refine goesL_ (some 55) rfl rfl Tryd.func9 (by kernel_rfl) rfl #[.int .i64 t233] rfl (by (try simp only [List.map_toArray, List.map_cons, List.map_nil]); first | done | rfl | (simp only [List.length_drop, List.length_take]; rfl)) ?_; (with_reducible refine (civil_Week.calls t233 t237 t238 _ A23.out).mono ?_); rintro e w' ⟨rfl, ⟨nd, rfl⟩⟩; refine ⟨_, rfl, ?_⟩))
            go_ret
            exact ⟨by first | rfl | (simp [errW_none, errW_some] <;> rfl) | (simp [*, errW_none, errW_some] <;> rfl), by repeat (first | (with_reducible first | exact HB.out | apply below_alloc | apply pw_below_drewN | apply below_drew1 | refine below_set ?_ GE220.out | refine below_set ?_ GE230.out) | exact HB.out)⟩
  · replace c4 := Bool.eq_false_iff.mpr c4
    subst c4
    have H1 : (none) = some r := by rw [if_neg (show ¬ (false = true) by decide)] at H; exact H
    clear H
    have H := H1
    clear H1
    exact absurd H (by simp)

end Go.Proofs.YtgigekfonenklaaDoor.XC
