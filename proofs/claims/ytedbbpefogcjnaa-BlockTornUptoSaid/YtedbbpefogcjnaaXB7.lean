-- by px.py, a program of this session, over the kit's printer: functions given by hand stand beside printed ones. Lean checks all of it.
import Derived.Test.YtedbbpefogcjnaaXB0
import Derived.Test.YtedbbpefogcjnaaXB2
import Derived.Test.YtedbbpefogcjnaaXB5
import Derived.Test.YtedbbpefogcjnaaXB6
import Derived.Test.YtedbbpefogcjnaaGKey
import Derived.Deep.DeepCutAuto
import Derived.Deep.CutRange
namespace Go.Proofs.Ytedbbpefogcjnaa.XB
open Go.RowKit Go.Proofs.YtedbbpefogcjnaaW.PrintWords Go.Proofs.YtedbbpefogcjnaaW.PrintLast Go.Proofs.YtedbbpefogcjnaaW.PrintMore
attribute [local go_sem] max2_int min2_int max_two min_two max_three min_three max_four min_four   -- for this text's walks alone
set_option linter.unusedVariables false
set_option linter.unusedSimpArgs false

/-! ### bellmanref03_Copy: function 19 -/
def bellmanref03_Copy.f (l0_0 : List ByteArray) (l0_1 : List (S39)) (a0_2 : Int) (a0_3 : Bool) : Option (List ByteArray × (List (S39)) × Int × Bool) := (some (([] : List ByteArray) : List ByteArray)).bind fun y110 => (if y110.length + l0_0.length < 8796093022208 then ((some (([] : List (S39)) : List (S39))).bind fun y116 => (if y116.length + l0_1.length < 5864062014805 then (some ((y110 ++ l0_0), (y116 ++ l0_1), a0_2, a0_3)) else (none))) else (none))
set_option maxHeartbeats 8000000 in
set_option maxRecDepth 100000 in
theorem bellmanref03_Copy.calls (A0_0 : Option Addr) (c0_0 : Nat) (l0_0 : List ByteArray) (A0_1 : Option Addr) (c0_1 : Nat) (l0_1 : List (S39)) (a0_2 : Int) (a0_3 : Bool) (r1 : List ByteArray) (r2 : List (S39)) (r3 : Int) (r4 : Bool) (w : World) (hr0_0 : Kd.C Kd.string w A0_0 l0_0.length l0_0) (hc0_0 : l0_0.length ≤ c0_0) (hr0_1 : Kd.C k39 w A0_1 l0_1.length l0_1) (hc0_1 : l0_1.length ≤ c0_1) (h : bellmanref03_Copy.f l0_0 l0_1 a0_2 a0_3 = some (r1, r2, r3, r4)) :
  Calls Try.prog 19 #[.agg #[.slice A0_0 l0_0.length c0_0, .slice A0_1 l0_1.length c0_1, .int .i64 a0_2, .bool a0_3]] w fun e w' => ∃ v0_ v1_ : Value, e = .returned (.agg #[v0_, v1_, .int .i64 r3, .bool r4]) ∧ Kd.R Kd.string 9 w' w.heap.size (fun _ => True) v0_ r1 ∧ Kd.R k39 39 w' w.heap.size (fun _ => True) v1_ r2 ∧ Below w.heap.size w w' := by
 have hu25 := Try.underlying25
 have HR0_0 := Aside0.mk hr0_0
 have HC0_0 := Aside0.mk hc0_0
 clear hr0_0 hc0_0
 have HR0_1 := Aside0.mk hr0_1
 have HC0_1 := Aside0.mk hc0_1
 clear hr0_1 hc0_1
 have HB := Aside0.mk (Below.refl w.heap.size w)
 have H : ((some (([] : List ByteArray) : List ByteArray)).bind fun y110 => (if y110.length + l0_0.length < 8796093022208 then ((some (([] : List (S39)) : List (S39))).bind fun y116 => (if y116.length + l0_1.length < 5864062014805 then (some ((y110 ++ l0_0), (y116 ++ l0_1), a0_2, a0_3)) else (none))) else (none))) = some (r1, r2, r3, r4) := h
 clear h
 obtain ⟨y110, hy110⟩ : ∃ y_ : List ByteArray, y_ = (([] : List ByteArray)) := ⟨_, rfl⟩
 replace H : (if y110.length + l0_0.length < 8796093022208 then ((some (([] : List (S39)) : List (S39))).bind fun y116 => (if y116.length + l0_1.length < 5864062014805 then (some ((y110 ++ l0_0), (y116 ++ l0_1), a0_2, a0_3)) else (none))) else (none)) = some (r1, r2, r3, r4) := by first | (rw [hy110]; with_reducible exact H) | (have H2_ := (Option.bind_some _ _).symm.trans H; rw [hy110]; with_reducible exact H2_) | (have H2_ := (Option.bind_some _ _).symm.trans H; with_reducible exact H2_) | with_reducible exact H | (rw [hy110]; exact H) | exact H
 have Ny110 := Aside0.mk hy110
 clear hy110
 by_cases c2 : y110.length + l0_0.length < 8796093022208
 ·rw [if_pos c2] at H
  have LMc2 := Aside0.mk c2
  clear c2
  obtain ⟨y113, hy113⟩ : ∃ y_ : List ByteArray, y_ = (y110 ++ l0_0) := ⟨_, rfl⟩
  replace H : ((some (([] : List (S39)) : List (S39))).bind fun y116 => (if y116.length + l0_1.length < 5864062014805 then (some (y113, (y116 ++ l0_1), a0_2, a0_3)) else (none))) = some (r1, r2, r3, r4) := by first | (rw [hy113]; with_reducible exact H) | (have H2_ := (Option.bind_some _ _).symm.trans H; rw [hy113]; with_reducible exact H2_) | (have H2_ := (Option.bind_some _ _).symm.trans H; with_reducible exact H2_) | with_reducible exact H | (rw [hy113]; exact H) | exact H
  have Ny113 := Aside0.mk hy113
  clear hy113
  obtain ⟨y116, hy116⟩ : ∃ y_ : List (S39), y_ = (([] : List (S39))) := ⟨_, rfl⟩
  replace H : (if y116.length + l0_1.length < 5864062014805 then (some (y113, (y116 ++ l0_1), a0_2, a0_3)) else (none)) = some (r1, r2, r3, r4) := by first | (rw [hy116]; with_reducible exact H) | (have H2_ := (Option.bind_some _ _).symm.trans H; rw [hy116]; with_reducible exact H2_) | (have H2_ := (Option.bind_some _ _).symm.trans H; with_reducible exact H2_) | with_reducible exact H | (rw [hy116]; exact H) | exact H
  have Ny116 := Aside0.mk hy116
  clear hy116
  by_cases c3 : y116.length + l0_1.length < 5864062014805
  ·rw [if_pos c3] at H
   have LMc3 := Aside0.mk c3
   clear c3
   obtain ⟨y119, hy119⟩ : ∃ y_ : List (S39), y_ = (y116 ++ l0_1) := ⟨_, rfl⟩
   replace H : (some (y113, y119, a0_2, a0_3)) = some (r1, r2, r3, r4) := by first | (rw [hy119]; with_reducible exact H) | (have H2_ := (Option.bind_some _ _).symm.trans H; rw [hy119]; with_reducible exact H2_) | (have H2_ := (Option.bind_some _ _).symm.trans H; with_reducible exact H2_) | with_reducible exact H | (rw [hy119]; exact H) | exact H
   have Ny119 := Aside0.mk hy119
   clear hy119
   simp only [Option.some.injEq, Prod.mk.injEq] at H
   obtain ⟨rfl, rfl, rfl, rfl⟩ := H
   go_enter Try.func19, Try.ntmps19
   go_wp2_with (first | ((with_reducible refine gate_dst (N := 1) rfl ?_); refine box_event ?hg (N := 1) ?hd (cs := #[.slice A0_0 l0_0.length c0_0, .slice A0_1 l0_1.length c0_1, .int .i64 a0_2, .bool a0_3]) (t := 25) ?hr ?_; (case hd => rfl); (case hg => rfl); (case hr => first | (go_simp; done) | (go_simp; rfl)); intro gb108 hg w4 hbox hb; have n0_ := Aside0.mk (below_step (by repeat (first | (with_reducible first | exact HB.out | apply below_alloc | apply pw_below_drewN | apply below_drew1) | exact HB.out)) hb); have n1_ := Aside0.mk (hbox); have n2_ := Aside0.mk ((by rw [hg]; exact (below_size (by repeat (first | (with_reducible first | exact HB.out | apply below_alloc | apply pw_below_drewN | apply below_drew1) | exact HB.out))) : w.heap.size ≤ gb108)); have n3_ := Aside0.mk ((by rw [hg]; exact (below_size (by repeat (first | (with_reducible first | exact HB.out | apply below_alloc | apply pw_below_drewN | apply below_drew1) | exact HB.out))) : w.heap.size ≤ gb108)); clear HB; have HB := n0_; have BK108 := n1_; have GW108 := n2_; have GE108 := n3_; clear n0_ n1_ n2_ n3_; clear hb hbox hg) | ((with_reducible refine gate_dst (N := 2) rfl ?_); refine box_event ?hg (N := 2) ?hd (cs := #[.slice none 0 0, .slice none 0 0, .int .i64 0, .bool false]) (t := 25) ?hr ?_; (case hd => rfl); (case hg => rfl); (case hr => first | (go_simp; done) | (go_simp; rfl)); intro gb109 hg w5 hbox hb; have n0_ := Aside0.mk (blk_below (g := gb108) (o := .cells #[.slice A0_0 l0_0.length c0_0, .slice A0_1 l0_1.length c0_1, .int .i64 a0_2, .bool a0_3] 25 (0, 0)) (by (with_reducible repeat (first | refine blk_drewN ?_ _ | refine blk_drew ?_ | refine blk_alloc ?_ _)); exact BK108.out) hb); have n1_ := Aside0.mk (below_step (by repeat (first | (with_reducible first | exact HB.out | apply below_alloc | apply pw_below_drewN | apply below_drew1 | refine below_set ?_ GE108.out) | exact HB.out)) hb); have n2_ := Aside0.mk (hbox); have n3_ := Aside0.mk ((by rw [hg]; exact (below_size (by repeat (first | (with_reducible first | exact HB.out | apply below_alloc | apply pw_below_drewN | apply below_drew1 | refine below_set ?_ GE108.out) | exact HB.out))) : w.heap.size ≤ gb109)); have n4_ := Aside0.mk ((by rw [hg]; exact (below_size (by repeat (first | (with_reducible first | exact HB.out | apply below_alloc | apply pw_below_drewN | apply below_drew1 | refine below_set ?_ GE108.out) | exact HB.out))) : w.heap.size ≤ gb109)); have n5_ := Aside0.mk ((by rw [hg]; exact Nat.ne_of_lt (blk_lt (g := gb108) (o := .cells #[.slice A0_0 l0_0.length c0_0, .slice A0_1 l0_1.length c0_1, .int .i64 a0_2, .bool a0_3] 25 (0, 0)) (by (with_reducible repeat (first | refine blk_drewN ?_ _ | refine blk_drew ?_ | refine blk_alloc ?_ _)); exact BK108.out)) : gb108 ≠ gb109)); have n6_ := Aside0.mk ((by rw [hg]; exact Nat.ne_of_gt (blk_lt (g := gb108) (o := .cells #[.slice A0_0 l0_0.length c0_0, .slice A0_1 l0_1.length c0_1, .int .i64 a0_2, .bool a0_3] 25 (0, 0)) (by (with_reducible repeat (first | refine blk_drewN ?_ _ | refine blk_drew ?_ | refine blk_alloc ?_ _)); exact BK108.out)) : gb109 ≠ gb108)); clear BK108; clear HB; have BK108 := n0_; have HB := n1_; have BK109 := n2_; have GW109 := n3_; have GE109 := n4_; have NB108_109 := n5_; have NB109_108 := n6_; clear n0_ n1_ n2_ n3_ n4_ n5_ n6_; clear hb hbox hg) | ((with_reducible refine gate_dst (N := 3) rfl ?_); refine Kd.R_lit Kd.string _ 9 ?hg (N := 3) ?hd (xs := ([] : List ByteArray)) (inner := []) (ok := fun _ => True) (okp := fun _ => True) ?hr ?hp (fun _ hk => hk) trivial (Below.refl _ _) (Nat.le_refl _) (by simp) ?_; (case hd => rfl); (case hg => rfl); (case hr => first | (go_simp; done) | (go_simp; rfl)); (case hp => exact (Reps.none _ _)); intro v111 w6 ho7 hb hg_ hnew_; clear hg_ hnew_; (first | rw [← Ny110.out] at ho7 | (simp only [Int.reduceToNat] at ho7; rw [← Ny110.out] at ho7)); have n0_ := Aside0.mk (Kd.R_lower ho7 (below_size (by repeat (first | (with_reducible first | exact HB.out | apply below_alloc | apply pw_below_drewN | apply below_drew1 | refine below_set ?_ GE108.out | refine below_set ?_ GE109.out) | exact HB.out)))); have n1_ := Aside0.mk (blk_below (g := gb108) (o := .cells #[.slice A0_0 l0_0.length c0_0, .slice A0_1 l0_1.length c0_1, .int .i64 a0_2, .bool a0_3] 25 (0, 0)) (by (with_reducible repeat (first | refine blk_drewN ?_ _ | refine blk_drew ?_ | refine blk_alloc ?_ _)); exact BK108.out) hb); have n2_ := Aside0.mk (blk_below (g := gb109) (o := .cells #[.slice none 0 0, .slice none 0 0, .int .i64 0, .bool false] 25 (0, 0)) (by (with_reducible repeat (first | refine blk_drewN ?_ _ | refine blk_drew ?_ | refine blk_alloc ?_ _)); exact BK109.out) hb); have n3_ := Aside0.mk (below_step (by repeat (first | (with_reducible first | exact HB.out | apply below_alloc | apply pw_below_drewN | apply below_drew1 | refine below_set ?_ GE108.out | refine below_set ?_ GE109.out) | exact HB.out)) hb); clear BK108; clear BK109; clear HB; have HO112 := n0_; have BK108 := n1_; have BK109 := n2_; have HB := n3_; clear n0_ n1_ n2_ n3_; clear hb ho7; have hnb8 := NB108_109.out; have hnc8 := NB109_108.out; have hcz9_0 : w6.cell? ⟨gb108, 0, none⟩ = some (.slice A0_0 l0_0.length c0_0) := (blk_cell BK108.out 0).trans rfl; have hcz9_1 : w6.cell? ⟨gb108, 1, none⟩ = some (.slice A0_1 l0_1.length c0_1) := (blk_cell BK108.out 1).trans rfl; have hcz9_2 : w6.cell? ⟨gb108, 2, none⟩ = some (.int .i64 a0_2) := (blk_cell BK108.out 2).trans rfl; have hcz9_3 : w6.cell? ⟨gb108, 3, none⟩ = some (.bool a0_3) := (blk_cell BK108.out 3).trans rfl; have hfz9_0 := blk_frozen BK108.out 0; have hfz9_1 := blk_frozen BK108.out 1; have hfz9_2 := blk_frozen BK108.out 2; have hfz9_3 := blk_frozen BK108.out 3) | ((with_reducible refine gate_builtin (b := .append) (xs := #[.tmp 3, .tmp 5]) rfl ?_); at_builtin; refine Kd.R_append_rows Kd.string (w0 := w) w.heap.size rfl (.tmp 3) (.tmp 5) 22 9 (.string ⟨#[]⟩) 16 rfl Try.underlying22 info9 rfl (by decide) (by omega) v111 y110 l0_0 _ _ _ (fun _ => True) (fun _ => False) rfl rfl ?aO ?aR (fun _ _ h => h) (fun _ h => h.elim) ?aF ?aB ?aS ?aL ?_; (case aR => repeat (first | exact (Kd.C_below HR0_0.out HB.out) | (with_reducible refine Kd.C_alloc ?_ _) | (with_reducible refine Kd.C_drewN ?_ _) | (with_reducible refine Kd.C_drew ?_))); (case aB => exact (by repeat (first | (with_reducible first | exact HB.out | apply below_alloc | apply pw_below_drewN | apply below_drew1 | refine below_set ?_ GE108.out | refine below_set ?_ GE109.out) | exact HB.out))); (case aF => exact (fun _ _ => trivial)); (case aO => exact (by (with_reducible repeat (first | apply Kd.R_alloc | apply Kd.R_drewN | apply Kd.R_drew)); exact HO112.out)); (case aS => exact (below_size (by repeat (first | (with_reducible first | exact HB.out | apply below_alloc | apply pw_below_drewN | apply below_drew1 | refine below_set ?_ GE108.out | refine below_set ?_ GE109.out) | exact HB.out)))); (case aL => have := LMc2.out; omega); intro v114 w10 ho hb hg hat; rw [← Ny113.out] at ho; have n0_ := Aside0.mk (blk_grown (g := gb108) (o := .cells #[.slice A0_0 l0_0.length c0_0, .slice A0_1 l0_1.length c0_1, .int .i64 a0_2, .bool a0_3] 25 (0, 0)) (by (with_reducible repeat (first | refine blk_drewN ?_ _ | refine blk_drew ?_ | refine blk_alloc ?_ _)); exact BK108.out) hg (Kd.R_ne HO112.out BK108.out (by decide))); have n1_ := Aside0.mk (blk_grown (g := gb109) (o := .cells #[.slice none 0 0, .slice none 0 0, .int .i64 0, .bool false] 25 (0, 0)) (by (with_reducible repeat (first | refine blk_drewN ?_ _ | refine blk_drew ?_ | refine blk_alloc ?_ _)); exact BK109.out) hg (Kd.R_ne HO112.out BK109.out (by decide))); have n2_ := Aside0.mk (hb); have n3_ := Aside0.mk (ho); clear BK108; clear BK109; clear HB; clear HO112; have BK108 := n0_; have BK109 := n1_; have HB := n2_; have HO115 := n3_; clear n0_ n1_ n2_ n3_; clear ho hb hg hat; obtain ⟨Ao11, co11, eo11⟩ := Kd.R_slice HO115.out; subst eo11; have hcz12_0 : w10.cell? ⟨gb108, 0, none⟩ = some (.slice A0_0 l0_0.length c0_0) := (blk_cell BK108.out 0).trans rfl; have hcz12_1 : w10.cell? ⟨gb108, 1, none⟩ = some (.slice A0_1 l0_1.length c0_1) := (blk_cell BK108.out 1).trans rfl; have hcz12_2 : w10.cell? ⟨gb108, 2, none⟩ = some (.int .i64 a0_2) := (blk_cell BK108.out 2).trans rfl; have hcz12_3 : w10.cell? ⟨gb108, 3, none⟩ = some (.bool a0_3) := (blk_cell BK108.out 3).trans rfl; have hfz12_0 := blk_frozen BK108.out 0; have hfz12_1 := blk_frozen BK108.out 1; have hfz12_2 := blk_frozen BK108.out 2; have hfz12_3 := blk_frozen BK108.out 3) | ((with_reducible refine gate_dst (N := 8) rfl ?_); refine Kd.R_lit k39 _ 39 ?hg (N := 8) ?hd (xs := ([] : List (S39))) (inner := []) (ok := fun _ => True) (okp := fun _ => True) ?hr ?hp (fun _ hk => hk) trivial (Below.refl _ _) (Nat.le_refl _) (by simp) ?_; (case hd => rfl); (case hg => rfl); (case hr => first | (go_simp; done) | (go_simp; rfl)); (case hp => exact (Reps.none _ _)); intro v117 w13 ho14 hb hg_ hnew_; clear hg_ hnew_; (first | rw [← Ny116.out] at ho14 | (simp only [Int.reduceToNat] at ho14; rw [← Ny116.out] at ho14)); have n0_ := Aside0.mk (Kd.R_below (by (with_reducible repeat (first | apply Kd.R_alloc | apply Kd.R_drewN | apply Kd.R_drew)); exact (Kd.R_mono (Kd.R_far (p := ⟨gb108, 0, none⟩) (Kd.R_types HO115.out BK108.out (by decide)) (fun _ hk => hk.2) (.slice Ao11 y113.length co11)) (fun _ h_ => h_.1))) hb); have n1_ := Aside0.mk (Kd.R_lower ho14 (below_size (by repeat (first | (with_reducible first | exact HB.out | apply below_alloc | apply pw_below_drewN | apply below_drew1 | refine below_set ?_ GE108.out | refine below_set ?_ GE109.out) | exact HB.out)))); have n2_ := Aside0.mk (blk_below (g := gb108) (o := .cells #[.slice Ao11 y113.length co11, .slice A0_1 l0_1.length c0_1, .int .i64 a0_2, .bool a0_3] 25 (0, 0)) (by (with_reducible repeat (first | refine blk_drewN ?_ _ | refine blk_drew ?_ | refine blk_alloc ?_ _)); refine blk_put (cs := #[.slice A0_0 l0_0.length c0_0, .slice A0_1 l0_1.length c0_1, .int .i64 a0_2, .bool a0_3]) ?_ 0 _ rfl; (with_reducible repeat (first | refine blk_drewN ?_ _ | refine blk_drew ?_ | refine blk_alloc ?_ _)); exact BK108.out) hb); have n3_ := Aside0.mk (blk_below (g := gb109) (o := .cells #[.slice none 0 0, .slice none 0 0, .int .i64 0, .bool false] 25 (0, 0)) (by (with_reducible repeat (first | refine blk_drewN ?_ _ | refine blk_drew ?_ | refine blk_alloc ?_ _)); refine blk_far ?_ NB109_108.out _; (with_reducible repeat (first | refine blk_drewN ?_ _ | refine blk_drew ?_ | refine blk_alloc ?_ _)); exact BK109.out) hb); have n4_ := Aside0.mk (below_step (by repeat (first | (with_reducible first | exact HB.out | apply below_alloc | apply pw_below_drewN | apply below_drew1 | refine below_set ?_ GE108.out | refine below_set ?_ GE109.out) | exact HB.out)) hb); clear HO115; clear BK108; clear BK109; clear HB; have HO115 := n0_; have HO118 := n1_; have BK108 := n2_; have BK109 := n3_; have HB := n4_; clear n0_ n1_ n2_ n3_ n4_; clear hb ho14; have hcz15_0 : w13.cell? ⟨gb108, 0, none⟩ = some (.slice Ao11 y113.length co11) := (blk_cell BK108.out 0).trans rfl; have hcz15_1 : w13.cell? ⟨gb108, 1, none⟩ = some (.slice A0_1 l0_1.length c0_1) := (blk_cell BK108.out 1).trans rfl; have hcz15_2 : w13.cell? ⟨gb108, 2, none⟩ = some (.int .i64 a0_2) := (blk_cell BK108.out 2).trans rfl; have hcz15_3 : w13.cell? ⟨gb108, 3, none⟩ = some (.bool a0_3) := (blk_cell BK108.out 3).trans rfl; have hfz15_0 := blk_frozen BK108.out 0; have hfz15_1 := blk_frozen BK108.out 1; have hfz15_2 := blk_frozen BK108.out 2; have hfz15_3 := blk_frozen BK108.out 3) | ((with_reducible refine gate_builtin (b := .append) (xs := #[.tmp 8, .tmp 10]) rfl ?_); at_builtin; refine Kd.R_append_rows k39 (w0 := w) w.heap.size rfl (.tmp 8) (.tmp 10) 23 39 (.agg #[(.int .i64 0), (.string ⟨#[]⟩)]) 24 rfl Try.underlying23 info39 rfl (by decide) (by omega) v117 y116 l0_1 _ _ _ (fun _ => True) (fun _ => False) rfl rfl ?aO ?aR (fun _ _ h => h) (fun _ h => h.elim) ?aF ?aB ?aS ?aL ?_; (case aR => repeat (first | exact (Kd.C_below HR0_1.out HB.out) | (with_reducible refine Kd.C_alloc ?_ _) | (with_reducible refine Kd.C_drewN ?_ _) | (with_reducible refine Kd.C_drew ?_))); (case aB => exact (by repeat (first | (with_reducible first | exact HB.out | apply below_alloc | apply pw_below_drewN | apply below_drew1 | refine below_set ?_ GE108.out | refine below_set ?_ GE109.out) | exact HB.out))); (case aF => exact (fun _ _ => trivial)); (case aO => exact (by (with_reducible repeat (first | apply Kd.R_alloc | apply Kd.R_drewN | apply Kd.R_drew)); exact HO118.out)); (case aS => exact (below_size (by repeat (first | (with_reducible first | exact HB.out | apply below_alloc | apply pw_below_drewN | apply below_drew1 | refine below_set ?_ GE108.out | refine below_set ?_ GE109.out) | exact HB.out)))); (case aL => have := LMc3.out; omega); intro v120 w16 ho hb hg hat; rw [← Ny119.out] at ho; have n0_ := Aside0.mk (blk_grown (g := gb108) (o := .cells #[.slice Ao11 y113.length co11, .slice A0_1 l0_1.length c0_1, .int .i64 a0_2, .bool a0_3] 25 (0, 0)) (by (with_reducible repeat (first | refine blk_drewN ?_ _ | refine blk_drew ?_ | refine blk_alloc ?_ _)); exact BK108.out) hg (Kd.R_ne HO118.out BK108.out (by decide))); have n1_ := Aside0.mk (blk_grown (g := gb109) (o := .cells #[.slice none 0 0, .slice none 0 0, .int .i64 0, .bool false] 25 (0, 0)) (by (with_reducible repeat (first | refine blk_drewN ?_ _ | refine blk_drew ?_ | refine blk_alloc ?_ _)); exact BK109.out) hg (Kd.R_ne HO118.out BK109.out (by decide))); have n2_ := Aside0.mk (Kd.R_over' (by (with_reducible repeat (first | apply Kd.R_alloc | apply Kd.R_drewN | apply Kd.R_drew)); exact HO115.out) (Kd.R_typed (by (with_reducible repeat (first | apply Kd.R_alloc | apply Kd.R_drewN | apply Kd.R_drew)); exact HO118.out)) (by decide) hg); have n3_ := Aside0.mk (hb); have n4_ := Aside0.mk (ho); clear BK108; clear BK109; clear HO115; clear HB; clear HO118; have BK108 := n0_; have BK109 := n1_; have HO115 := n2_; have HB := n3_; have HO121 := n4_; clear n0_ n1_ n2_ n3_ n4_; clear ho hb hg hat; obtain ⟨Ao17, co17, eo17⟩ := Kd.R_slice HO121.out; subst eo17; have hcz18_0 : w16.cell? ⟨gb108, 0, none⟩ = some (.slice Ao11 y113.length co11) := (blk_cell BK108.out 0).trans rfl; have hcz18_1 : w16.cell? ⟨gb108, 1, none⟩ = some (.slice A0_1 l0_1.length c0_1) := (blk_cell BK108.out 1).trans rfl; have hcz18_2 : w16.cell? ⟨gb108, 2, none⟩ = some (.int .i64 a0_2) := (blk_cell BK108.out 2).trans rfl; have hcz18_3 : w16.cell? ⟨gb108, 3, none⟩ = some (.bool a0_3) := (blk_cell BK108.out 3).trans rfl; have hfz18_0 := blk_frozen BK108.out 0; have hfz18_1 := blk_frozen BK108.out 1; have hfz18_2 := blk_frozen BK108.out 2; have hfz18_3 := blk_frozen BK108.out 3; have hcz19_0 : w16.cell? ⟨gb109, 0, none⟩ = some (.slice none 0 0) := (blk_cell BK109.out 0).trans rfl; have hcz19_1 : w16.cell? ⟨gb109, 1, none⟩ = some (.slice none 0 0) := (blk_cell BK109.out 1).trans rfl; have hcz19_2 : w16.cell? ⟨gb109, 2, none⟩ = some (.int .i64 0) := (blk_cell BK109.out 2).trans rfl; have hcz19_3 : w16.cell? ⟨gb109, 3, none⟩ = some (.bool false) := (blk_cell BK109.out 3).trans rfl; have hfz19_0 := blk_frozen BK109.out 0; have hfz19_1 := blk_frozen BK109.out 1; have hfz19_2 := blk_frozen BK109.out 2; have hfz19_3 := blk_frozen BK109.out 3))
   refine bodyPost_ret (results_cell_row rfl _ _ gb109 25 #[.slice Ao11 y113.length co11, .slice Ao17 y119.length co17, .int .i64 a0_2, .bool a0_3] (0, 0) _ rfl (by (with_reducible repeat (first | refine blk_drewN ?_ _ | refine blk_drew ?_ | refine blk_alloc ?_ _)); refine blk_put (cs := #[.slice Ao11 y113.length co11, .slice Ao17 y119.length co17, .int .i64 a0_2, .bool false]) ?_ 3 _ rfl; (with_reducible repeat (first | refine blk_drewN ?_ _ | refine blk_drew ?_ | refine blk_alloc ?_ _)); refine blk_put (cs := #[.slice Ao11 y113.length co11, .slice Ao17 y119.length co17, .int .i64 0, .bool false]) ?_ 2 _ rfl; (with_reducible repeat (first | refine blk_drewN ?_ _ | refine blk_drew ?_ | refine blk_alloc ?_ _)); refine blk_put (cs := #[.slice Ao11 y113.length co11, .slice none 0 0, .int .i64 0, .bool false]) ?_ 1 _ rfl; (with_reducible repeat (first | refine blk_drewN ?_ _ | refine blk_drew ?_ | refine blk_alloc ?_ _)); refine blk_put (cs := #[.slice none 0 0, .slice none 0 0, .int .i64 0, .bool false]) ?_ 0 _ rfl; (with_reducible repeat (first | refine blk_drewN ?_ _ | refine blk_drew ?_ | refine blk_alloc ?_ _)); refine blk_far ?_ NB109_108.out _; (with_reducible repeat (first | refine blk_drewN ?_ _ | refine blk_drew ?_ | refine blk_alloc ?_ _)); exact BK109.out) Try.underlying25 rfl (by kernel_rfl)) rfl ?_
   exact ⟨_, _, by first | rfl | (simp [errW_none, errW_some] <;> rfl) | (simp [*, errW_none, errW_some] <;> rfl), by (with_reducible repeat (first | apply Kd.R_alloc | apply Kd.R_drewN | apply Kd.R_drew)); exact Kd.R_mono (Kd.R_far (p := ⟨gb109, 3, none⟩) (Kd.R_far (p := ⟨gb109, 2, none⟩) (Kd.R_far (p := ⟨gb109, 1, none⟩) (Kd.R_far (p := ⟨gb109, 0, none⟩) (Kd.R_far (p := ⟨gb108, 1, none⟩) (Kd.R_types (Kd.R_types HO115.out BK108.out (by decide)) BK109.out (by decide)) (fun _ hk => hk.1.2) (.slice Ao17 y119.length co17)) (fun _ hk => hk.2) (.slice Ao11 y113.length co11)) (fun _ hk => hk.2) (.slice Ao17 y119.length co17)) (fun _ hk => hk.2) (.int .i64 a0_2)) (fun _ hk => hk.2) (.bool a0_3)) (fun _ hk => trivial), by (with_reducible repeat (first | apply Kd.R_alloc | apply Kd.R_drewN | apply Kd.R_drew)); exact Kd.R_mono (Kd.R_far (p := ⟨gb109, 3, none⟩) (Kd.R_far (p := ⟨gb109, 2, none⟩) (Kd.R_far (p := ⟨gb109, 1, none⟩) (Kd.R_far (p := ⟨gb109, 0, none⟩) (Kd.R_far (p := ⟨gb108, 1, none⟩) (Kd.R_types (Kd.R_types HO121.out BK108.out (by decide)) BK109.out (by decide)) (fun _ hk => hk.1.2) (.slice Ao17 y119.length co17)) (fun _ hk => hk.2) (.slice Ao11 y113.length co11)) (fun _ hk => hk.2) (.slice Ao17 y119.length co17)) (fun _ hk => hk.2) (.int .i64 a0_2)) (fun _ hk => hk.2) (.bool a0_3)) (fun _ hk => trivial), by repeat (first | (with_reducible first | exact HB.out | apply below_alloc | apply pw_below_drewN | apply below_drew1 | refine below_set ?_ GE108.out | refine below_set ?_ GE109.out) | exact HB.out)⟩
  ·rw [if_neg c3] at H
   exact absurd H (by simp)
 ·rw [if_neg c2] at H
  exact absurd H (by simp)

-- PXIMPORT YtedbbpefogcjnaaGKey
-- PXIMPORT Derived.Deep.DeepCutAuto
-- PXIMPORT Derived.Deep.CutRange
/-! ### bellmanref03_Crash: function 8, by hand -/
def bellmanref03_Crash.f (k : Nat) (l0_0 : List ByteArray) (l0_1 : List (S39)) (a0_2 : Int) (a0_3 : Bool) (l1 : List Int) : Option (List ByteArray × (List (S39)) × Int × Bool × Int) :=
 (bellmanref03_Check.f k l0_0 l0_1 a0_2 a0_3).bind fun why => if why = 0 then if dv_fit ⟨l0_0, l0_1, a0_2, a0_3⟩ ∧ dv_ok ⟨l0_0, l0_1, a0_2, a0_3⟩ = true then some (cr_go l1 0 l0_1 l0_0, [], -1, false, 0) else none else some ([], [], 0, false, 2)
theorem bellmanref03_Crash.mono : ∀ a0 a1 a2 a3 a4 k, LeO (bellmanref03_Crash.f k a0 a1 a2 a3 a4) (bellmanref03_Crash.f (k + 1) a0 a1 a2 a3 a4) := fun a0 a1 a2 a3 a4 k => LeO.bind (bellmanref03_Check.mono _ _ _ _ _) (fun _ => LeO.refl _)
set_option maxHeartbeats 4000000 in
set_option maxRecDepth 100000 in
theorem bellmanref03_Crash.calls (k : Nat) (A0_0 : Option Addr) (c0_0 : Nat) (l0_0 : List ByteArray) (A0_1 : Option Addr) (c0_1 : Nat) (l0_1 : List (S39)) (a0_2 : Int) (a0_3 : Bool) (A1 : Option Addr) (c1 : Nat) (l1 : List Int) (r1 : List ByteArray) (r2 : List (S39)) (r3 : Int) (r4 : Bool) (r5 : Int) (w : World) (hr0_0 : Kd.C Kd.string w A0_0 l0_0.length l0_0) (hc0_0 : l0_0.length ≤ c0_0) (hr0_1 : Kd.C k39 w A0_1 l0_1.length l0_1) (hc0_1 : l0_1.length ≤ c0_1) (hr1 : Kd.C (Kd.int .i64) w A1 l1.length l1) (hc1 : l1.length ≤ c1) (h : bellmanref03_Crash.f k l0_0 l0_1 a0_2 a0_3 l1 = some (r1, r2, r3, r4, r5)) :
  Calls Try.prog 8 #[.agg #[.slice A0_0 l0_0.length c0_0, .slice A0_1 l0_1.length c0_1, .int .i64 a0_2, .bool a0_3], .slice A1 l1.length c1] w fun e w' => ∃ v0_ v1_ : Value, e = .returned (.tuple #[.agg #[v0_, v1_, .int .i64 r3, .bool r4], .int .i64 r5]) ∧ Kd.V Kd.string 9 w' w.heap.size (fun k_ => (w.heap.size ≤ k_)) v0_ r1 ∧ Kd.V k39 39 w' w.heap.size (fun k_ => (w.heap.size ≤ k_)) v1_ r2 ∧ Below w.heap.size w w' := by
 have hu2 := Try.underlying25
 have hu3 := Try.underlying39
 unfold bellmanref03_Crash.f at h
 obtain ⟨why, hch, H⟩ := Option.bind_eq_some_iff.mp h
 clear h
 have hb := below_alloc (below_alloc (Below.refl w.heap.size w) (.cells #[.slice A0_0 l0_0.length c0_0, .slice A0_1 l0_1.length c0_1, .int .i64 a0_2, .bool a0_3] 25)) (.cells #[.slice none 0 0, .slice none 0 0, .int .i64 0, .bool false] 25)
 have hn0 := blk_alloc (blk_new w (.cells #[.slice A0_0 l0_0.length c0_0, .slice A0_1 l0_1.length c0_1, .int .i64 a0_2, .bool a0_3] 25)) (.cells #[.slice none 0 0, .slice none 0 0, .int .i64 0, .bool false] 25)
 have hn := blk_new (w.alloc (.cells #[.slice A0_0 l0_0.length c0_0, .slice A0_1 l0_1.length c0_1, .int .i64 a0_2, .bool a0_3] 25)) (.cells #[.slice none 0 0, .slice none 0 0, .int .i64 0, .bool false] 25)
 rw [World.size_alloc] at hn
 have HC := Lib.hid (bellmanref03_Check.calls k A0_0 c0_0 l0_0 A0_1 c0_1 l0_1 a0_2 a0_3 why _ (Kd.C_below hr0_0 hb) hc0_0 (Kd.C_below hr0_1 hb) hc0_1 hch)
 have HK := Lib.hid (And.intro hr0_0 (And.intro hr0_1 hr1))
 have HB := Lib.hid hb
 have HN := Lib.hid hn
 have HN0 := Lib.hid hn0
 clear hr0_0 hr0_1 hr1 hb hn hn0
 clear hch
 by_cases c : why = 0
 rotate_left
 ·rw [if_neg c] at H
  simp only [Option.some.injEq, Prod.mk.injEq] at H
  obtain ⟨rfl, rfl, rfl, rfl, rfl⟩ := H
  have d : (why != 0) = true := bne_iff_ne.mpr c
  go_enter Try.func8, Try.ntmps8
  go_wp2_with (first | (go_at_call 18; refine HC.out.mono ?_; rintro e w3 ⟨rfl, hb3⟩; have HB3 := Lib.hid (below_then HB.out HB.out.size hb3); have HCUR := Lib.hid ((hb3.block _ (blk_lt HN.out)).trans HN.out); clear hb3) | (refine keys_store_row rfl 25 (.tmp 4) (.tmp 13) rfl (w.heap.size + 1) _ #[.slice none 0 0, .slice none 0 0, .int .i64 0, .bool false] 25 rfl rfl HCUR.out rfl (by kernel_rfl) (by intro v hv; simp at hv; rcases hv with rfl | rfl | rfl | rfl <;> rfl) ?_))
  have o1 := setRow_heap w3 (w.heap.size + 1) _ #[.slice none 0 0, .slice none 0 0, .int .i64 0, .bool false] 25 _ HCUR.out
  obtain ⟨x0, x1, x2, x3⟩ := blk_cells4 o1
  refine bodyPost_ret (v := .tuple #[.agg #[.slice none 0 0, .slice none 0 0, .int .i64 0, .bool false], .int .i64 2]) (by simp [results, Try.results8, go_sem, x0, x1, x2, x3]) rfl ⟨_, _, rfl, Kd.V_nil _ _ _ _ _, Kd.V_nil _ _ _ _ _, keys_below_setRow HB3.out (by omega) _⟩
 rw [if_pos c] at H
 subst c
 split at H
 rotate_left
 ·cases H
 rename_i hfo
 simp only [Option.some.injEq, Prod.mk.injEq] at H
 obtain ⟨hr1, rfl, rfl, rfl, rfl⟩ := H
 have HALL := Lib.hid (dv_ok_all hfo.2)
 have HR1 := Lib.hid hr1
 have HFIT := Lib.hid hfo.1
 clear hr1 hfo
 go_enter Try.func8, Try.ntmps8
 go_upto_region 4 with (first | (go_at_call 18; refine HC.out.mono ?_; rintro e w3 ⟨rfl, hb3⟩; have HB3 := Lib.hid (below_then HB.out HB.out.size hb3); have HCUR := Lib.hid ((hb3.block _ (blk_lt HN.out)).trans HN.out); have HCUR0 := Lib.hid ((hb3.block _ (blk_lt HN0.out)).trans HN0.out); obtain ⟨p0, p1, p2, p3⟩ := blk_cells4 HCUR0.out; clear hb3) | (go_at_call 19; refine (bellmanref03_Copy.calls A0_0 c0_0 l0_0 A0_1 c0_1 l0_1 a0_2 a0_3 l0_0 l0_1 a0_2 a0_3 _ (Kd.C_below HK.out.1 HB3.out) hc0_0 (Kd.C_below HK.out.2.1 HB3.out) hc0_1 (by unfold bellmanref03_Copy.f; have h1 := HFIT.out.1; have h2 := HFIT.out.2.1; simp only [Option.bind_some, List.length_nil, Nat.zero_add, List.nil_append]; rw [if_pos h1, if_pos h2])).mono ?_; rintro e w4 ⟨v4, v5, rfl, hr4, hr5, hb4⟩; have HB4 := Lib.hid (below_then HB3.out HB3.out.size hb4); have HCU0 := Lib.hid ((hb4.block _ (blk_lt HCUR0.out)).trans HCUR0.out); have HCU4 := Lib.hid ((hb4.block _ (blk_lt HCUR.out)).trans HCUR.out); obtain ⟨B4, e4, rfl⟩ := Kd.R_slice hr4; obtain ⟨B5, e5, rfl⟩ := Kd.R_slice hr5; have HR4 := Lib.hid (Kd.R_lower hr4 HB3.out.size); have HR5 := Lib.hid (Kd.R_lower hr5 HB3.out.size); clear hr4 hr5 hb4))
 letI : Inhabited ByteArray := ⟨ByteArray.empty⟩
 have hbase := fun k hk => Kd.R_base HR4.out k hk
 have ht4 : TRow st_enc 1 9 w4 (.slice B4 l0_0.length e4) l0_0 := TRow.ofR (d := Kd.string) (fun hp => hp) rfl HR4.out
 have hb5 := below_alloc (Below.refl w4.heap.size w4) (.cells #[.slice B4 l0_0.length e4, .slice B5 l0_1.length e5, .int .i64 a0_2, .bool a0_3] 25)
 have hdc : DC w4.heap.size (w.heap.size + 1) B4 e4 B5 l0_1.length e5 a0_2 a0_3 w (w4.alloc (.cells #[.slice B4 l0_0.length e4, .slice B5 l0_1.length e5, .int .i64 a0_2, .bool a0_3] 25)) l0_0 :=
  ⟨blk_new _ _, ⟨_, (hb5.block _ (blk_lt HCU4.out)).trans HCU4.out, rfl⟩, ht4.moved (fun k hk => hb5.block k (ht4.lt k hk)), hbase, below_then HB4.out HB4.out.size hb5⟩
 have HDC := Lib.hid hdc
 obtain ⟨p0, p1, p2, p3⟩ := blk_cells4 ((hb5.block _ (blk_lt HCU0.out)).trans HCU0.out)
 generalize (w4.alloc (.cells #[.slice B4 l0_0.length e4, .slice B5 l0_1.length e5, .int .i64 a0_2, .bool a0_3] 25)) = w5 at HDC p0 p1 p2 p3 ⊢
 obtain ⟨s, hs⟩ : ∃ s, s = w4.heap.size := ⟨_, rfl⟩
 have hsw : w.heap.size + 1 < s := by have := blk_lt HCU4.out; omega
 obtain ⟨t, ht⟩ : ∃ t, t = w.heap.size + 1 := ⟨_, rfl⟩
 rw [← hs, ← ht] at HDC ⊢
 rw [← ht] at hsw
 have HT := Lib.hid (show w.heap.size ≤ t ∧ t < s from ⟨by omega, hsw⟩)
 have hmaxw := HK.out.2.1.2.1
 have hmaxk := HK.out.2.2.2.1
 have HZ := Lib.hid HDC.out.1
 clear hdc hb5 ht4 hbase HR4 HR5 HCU0 HCU4 HCUR HCUR0 HN HN0 HB HB3 HB4 HC hs ht hsw
 go_wp2
 go_loopw [19] (fun v24 wr => ∃ (k : Nat) (b : List ByteArray), v24 = .int .i64 (k : Int) ∧ k ≤ l0_1.length ∧ Hid (DC s t B4 e4 B5 l0_1.length e5 a0_2 a0_3 w wr b) ∧ Hid (b.length = l0_0.length ∧ (∀ x ∈ b, x.size = 64) ∧ cr_go l1 0 l0_1 l0_0 = cr_go l1 k (l0_1.drop k) b)) (fun v24 _ => l0_1.length - (intOf v24).toNat)
 case atStart => exact ⟨0, l0_0, rfl, Nat.zero_le _, HDC, Lib.hid ⟨rfl, HALL.out.1, rfl⟩⟩
 case round =>
  clear HDC p0 p1 p2 p3
  obtain ⟨k, b, rfl, hk, HD, HI⟩ := hrel
  by_cases hlt : k < l0_1.length
  rotate_left
  ·obtain rfl : k = l0_1.length := by omega
   have q1 : ¬ ((l0_1.length : Int) < (l0_1.length : Int)) := by omega
   obtain ⟨h1, ⟨cu, h2, hcz⟩, h3, h4, h5⟩ := HD.out
   have HCZ := Lib.hid hcz
   clear hcz
   obtain ⟨g0, g1, g2, g3⟩ := blk_cells4 h1
   have f1 := blk_frozen h1 1
   have f2 := blk_frozen h1 2
   have f3 := blk_frozen h1 3
   have hne1 : t ≠ s := by have := HT.out; omega
   have hs1 := blk_set (blk_set (blk_set h1 1 (.slice none 0 0)) 3 (.bool false)) 2 (.int .i64 (-1))
   simp only [List.setIfInBounds_toArray, List.set_cons_zero, List.set_cons_succ] at hs1
   have hs2 : (((wr.setCell ⟨s, 1, none⟩ (.slice none 0 0)).setCell ⟨s, 3, none⟩ (.bool false)).setCell ⟨s, 2, none⟩ (.int .i64 (-1))).heap[t]? = some (.cells cu 25 (0, 0)) :=
    (Below.heap_setCell _ ⟨s, 2, none⟩ _ _ hne1).trans ((Below.heap_setCell _ ⟨s, 3, none⟩ _ _ hne1).trans ((Below.heap_setCell _ ⟨s, 1, none⟩ _ _ hne1).trans h2))
   have hsw : w.heap.size ≤ s := by have := HT.out; omega
   have hb6 := ((h5.setCell (p := ⟨s, 1, none⟩) hsw (.slice none 0 0)).setCell (p := ⟨s, 3, none⟩) hsw (.bool false)).setCell (p := ⟨s, 2, none⟩) hsw (.int .i64 (-1))
   have hns : ∀ k, (Value.slice B4 b.length e4).ownBlock = some k → k ≠ s := fun k hk e => by
    obtain ⟨cur, hcur⟩ := h3.typed k hk
    rw [e, h1] at hcur
    cases hcur
   have hns2 : ∀ k, (Value.slice B4 b.length e4).ownBlock = some k → k ≠ t := fun k hk e => by
    obtain ⟨cur, hcur⟩ := h3.typed k hk
    rw [e, h2] at hcur
    cases hcur
   have ht6 := h3.moved (w' := ((wr.setCell ⟨s, 1, none⟩ (.slice none 0 0)).setCell ⟨s, 3, none⟩ (.bool false)).setCell ⟨s, 2, none⟩ (.int .i64 (-1))) (fun k hk => (Below.heap_setCell _ ⟨s, 2, none⟩ _ k (hns k hk)).trans ((Below.heap_setCell _ ⟨s, 3, none⟩ _ k (hns k hk)).trans (Below.heap_setCell _ ⟨s, 1, none⟩ _ k (hns k hk))))
   have hfin : b = cr_go l1 0 l0_1 l0_0 := by
    rw [HI.out.2.2, List.drop_of_length_le (Nat.le_refl _)]
    rfl
   have HS1 := Lib.hid hs1
   have HS2 := Lib.hid hs2
   have HB6 := Lib.hid hb6
   have HT6 := Lib.hid ht6
   have HO6 := Lib.hid (And.intro h4 hns2)
   have HFIN := Lib.hid hfin
   clear h1 h2 h3 h4 h5 hs1 hs2 hb6 hns hns2 ht6 hfin
   go_upto_region 15 with fail
   generalize (((wr.setCell ⟨s, 1, none⟩ (.slice none 0 0)).setCell ⟨s, 3, none⟩ (.bool false)).setCell ⟨s, 2, none⟩ (.int .i64 (-1))) = w6 at HS1 HS2 HB6 HT6 ⊢
   obtain ⟨y0, y1, y2, y3⟩ := blk_cells4 HS1.out
   clear g0 g1 g2 g3 f1 f2 f3
   go_wp2_with (refine keys_store_row rfl 25 (.tmp 4) (.tmp 56) rfl t _ #[.slice B4 b.length e4, .slice none 0 0, .int .i64 (-1), .bool false] 25 rfl rfl HS2.out HCZ.out (by kernel_rfl) (by intro v hv; simp at hv; rcases hv with rfl | rfl | rfl | rfl <;> rfl) ?_)
   have o1 := setRow_heap w6 t _ #[.slice B4 b.length e4, .slice none 0 0, .int .i64 (-1), .bool false] 25 _ HS2.out
   obtain ⟨x0, x1, x2, x3⟩ := blk_cells4 o1
   refine bodyPost_ret (v := .tuple #[.agg #[.slice B4 b.length e4, .slice none 0 0, .int .i64 (-1), .bool false], .int .i64 0]) (by simp [results, Try.results8, go_sem, x0, x1, x2, x3]) rfl ⟨_, _, rfl, ?_, Kd.V_nil _ _ _ _ _, keys_below_setRow HB6.out (HT.out.1) _⟩
   rw [← HR1.out, ← HFIN.out]
   exact (HT6.out.moved (fun k hk => setRow_other w6 t k _ (HO6.out.2 k hk))).toV (d := Kd.string) (fun _ _ => rfl) (fun _ => rfl) rfl w.heap.size (fun k hk => HO6.out.1 k hk)
  ·have q1 : ((k : Int) < (l0_1.length : Int)) := by omega
   have q0 : (0 : Int) ≤ (k : Int) := by omega
   obtain ⟨h1, h2, h3, h4, h5⟩ := HD.out
   obtain ⟨ad, e0, hx0, hx1⟩ := at_T39 (Kd.C_below HK.out.2.1 h5) (k : Int) q0 q1
   cases e0
   simp only [Int.toNat_natCast] at hx0 hx1
   have hxin := HALL.out.2 (rd_T39 l0_1 (k : Int)) (by
    unfold rd_T39
    rw [Int.toNat_natCast, List.getD_eq_getElem?_getD, List.getElem?_eq_getElem hlt]
    exact List.getElem_mem hlt)
   have hgo := cr_go_at l1 l0_1 b k hlt
   obtain ⟨x, hx⟩ : ∃ x, x = rd_T39 l0_1 (k : Int) := ⟨_, rfl⟩
   rw [← hx] at hx0 hx1 hxin hgo
   have HX := Lib.hid hx
   obtain ⟨hx2, hx3, hx4⟩ := hxin
   have hbl := HI.out.1
   have hxb : x.f0.toNat < b.length := by omega
   have hpos : 0 < b.length := by omega
   obtain ⟨b1, cap1, cur1, he1, _⟩ := h3.form hpos
   obtain ⟨rfl, rfl⟩ : B4 = some ⟨b1, 0, none⟩ ∧ e4 = cap1 := by cases he1; exact ⟨rfl, rfl⟩
   clear he1
   obtain ⟨cur, hcur⟩ := h3.typed b1 rfl
   have hw5 := h4 b1 rfl
   obtain ⟨old, hold, holdz, holdd⟩ : ∃ old, wr.cell? ⟨b1, x.f0.toNat, none⟩ = some (.string old) ∧ old.size = 64 ∧ b.getD x.f0.toNat ByteArray.empty = old := by
    have ho := h3.cell (i := x.f0.toNat) (x := b[x.f0.toNat]'hxb) (List.getElem?_eq_getElem hxb) (t := 0) (u := .string (b[x.f0.toNat]'hxb)) rfl
    simp only [Nat.mul_one, Nat.add_zero] at ho
    exact ⟨_, ho, HI.out.2.1 _ (List.getElem_mem hxb), by rw [List.getD_eq_getElem?_getD, List.getElem?_eq_getElem hxb]; rfl⟩
   rw [holdd] at hgo
   obtain ⟨g0, g1, g2, g3⟩ := blk_cells4 h1
   have hne1 : wr.heap.size ≠ s := World.new_ne wr ⟨s, 0, none⟩ g0
   have hne2 : wr.heap.size ≠ b1 := World.new_ne wr ⟨b1, _, none⟩ hold
   have HL2 := Lib.hid (HD.out.below (below_alloc (Below.refl wr.heap.size wr) (.cells #[.int .i64 x.f0, .string x.f1] 39)))
   have y0 : (wr.alloc (.cells #[.int .i64 x.f0, .string x.f1] 39)).cell? ⟨s, 0, none⟩ = some (.slice (some ⟨b1, 0, none⟩) b.length e4) := (World.cell?_alloc_lt _ _ _ (World.block_lt_of_cell? wr ⟨s, 0, none⟩ g0)).trans g0
   have y1 : (wr.alloc (.cells #[.int .i64 x.f0, .string x.f1] 39)).cell? ⟨b1, x.f0.toNat, none⟩ = some (.string old) := (World.cell?_alloc_lt _ _ _ (World.block_lt_of_cell? wr ⟨b1, _, none⟩ hold)).trans hold
   have y2 : (wr.alloc (.cells #[.int .i64 x.f0, .string x.f1] 39)).frozen? ⟨b1, x.f0.toNat, none⟩ = false := blk_frozen (blk_alloc hcur _) _
   have yb := blk_new wr (.cells #[.int .i64 x.f0, .string x.f1] 39)
   obtain ⟨yb0, yb1⟩ := (show (wr.alloc (.cells #[.int .i64 x.f0, .string x.f1] 39)).cell? ⟨wr.heap.size, 0, none⟩ = some (.int .i64 x.f0) ∧ (wr.alloc (.cells #[.int .i64 x.f0, .string x.f1] 39)).cell? ⟨wr.heap.size, 1, none⟩ = some (.string x.f1) from ⟨blk_cell yb 0, blk_cell yb 1⟩)
   have xq1 : x.f0 < (b.length : Int) := by omega
   have mixed : Try.prog.follows Departure.mixedOrders = true := by kernel_rfl
   obtain ⟨n, hn⟩ : ∃ n, n = cr_n l1 k := ⟨_, rfl⟩
   have hnle : n ≤ 64 := by rw [hn]; exact cr_n_le l1 k
   rw [← hn] at hgo
   have HN := Lib.hid hn
   have HGO := Lib.hid hgo
   have HOZ := Lib.hid holdz
   have HXZ := Lib.hid hx4
   have HBL := Lib.hid hbl
   have k1 : (n : Int) ≤ (x.f1.size : Int) := by omega
   have k2 : (n : Int) ≤ (old.size : Int) := by omega
   have k3 : ¬ 9223372036854775807 < (x.f1.extract 0 n).size + (old.extract n old.size).size := by rw [ByteArray.size_extract, ByteArray.size_extract]; omega
   have k6 : ¬ 9223372036854775807 < min n x.f1.size + (old.size - n) := by omega
   have k4 : (0 : Int) ≤ (n : Int) := by omega
   have k5 : x.f1.size ≤ 9223372036854775807 := by omega
   clear h1 h2 h3 h4 h5 hcur yb hn hgo holdz hx4 hbl hx g1 g2 g3
   have hyk : k < l1.length → ∃ ad2 v, A1 = some ad2 ∧ (wr.alloc (.cells #[.int .i64 x.f0, .string x.f1] 39)).cell? (ad2.add k) = some (.int .i64 v) ∧ (n : Int) = min (max 0 v) 64 := by
    intro hkk
    obtain ⟨ad2, e2, hy⟩ := Kd.at_int (Kd.C_below HK.out.2.2 HD.out.2.2.2.2) (k : Int) q0 (by omega)
    have hy2 := (World.cell?_alloc_lt wr (.cells #[.int .i64 x.f0, .string x.f1] 39) _ (World.block_lt_of_cell? wr _ hy)).trans hy
    simp only [Int.toNat_natCast] at hy2
    refine ⟨ad2, _, e2, hy2, ?_⟩
    have := HN.out
    unfold cr_n at this
    rw [if_pos hkk] at this
    omega
   have HYK := Lib.hid hyk
   clear hyk hold
   go_upto_region 8 with fail
   generalize wr.heap.size = q at yb0 yb1 hne1 hne2 HL2 ⊢
   generalize (wr.alloc (.cells #[.int .i64 x.f0, .string x.f1] 39)) = W1 at y0 y1 y2 yb0 yb1 HL2 HYK ⊢
   clear hx0 hx1 g0
   have HY := Lib.hid (And.intro y0 (And.intro y1 (And.intro y2 (And.intro yb0 yb1))))
   go_upto_if 27 with fail
   go_cut [9] (fun v9 wc => v9 = .int .i64 (n : Int) ∧ wc = W1)
   case first =>
    by_cases hkk : k < l1.length
    ·have u1 : ((k : Int) < (l1.length : Int)) := by omega
     obtain ⟨ad2, v, e2, hy2, hnv⟩ := HYK.out hkk
     subst e2
     by_cases v1 : 0 < v
     ·by_cases v2 : v < 64
      ·obtain rfl : v = (n : Int) := by omega
       have v3 : ¬ 64 < (n : Int) := by omega
       clear hnv
       go_wp2
       go_meet
       case rel => exact ⟨rfl, rfl⟩
      ·obtain rfl : n = 64 := by omega
       clear hnv
       by_cases v3 : 64 < v
       ·go_wp2
        go_meet
        case rel => exact ⟨rfl, rfl⟩
       ·obtain rfl : v = 64 := by omega
        clear v1 v2 v3
        go_wp2
        go_meet
        case rel => exact ⟨rfl, rfl⟩
     ·obtain rfl : n = 0 := by omega
      have v2 : v < 64 := by omega
      have v3 : ¬ 64 < v := by omega
      clear hnv
      go_wp2
      go_meet
      case rel => exact ⟨rfl, rfl⟩
    ·have u1 : ¬ ((k : Int) < (l1.length : Int)) := by omega
     have hn0 : n = 0 := by
      have := HN.out
      unfold cr_n at this
      rw [if_neg hkk] at this
      exact this
     subst hn0
     go_wp2
     go_meet
     case rel => exact ⟨rfl, rfl⟩
   case rest =>
   obtain ⟨rfl, hw1⟩ := hcut
   subst hw1
   obtain ⟨y0, y1, y2, yb0, yb1⟩ := HY.out
   go_upto_region 10 with fail
   refine start_ (n := 19) (S := fun w' => w'.cell? ⟨q, 1, none⟩ = some (.string x.f1) ∧ w'.cell? ⟨b1, x.f0.toNat, none⟩ = some (.string old) ∧ w'.cell? ⟨s, 0, none⟩ = some (.slice (some ⟨b1, 0, none⟩) b.length e4) ∧ w'.cell? ⟨q, 0, none⟩ = some (.int .i64 x.f0)) (ds := [18]) #[false, false, false, false, false, false, false, false, false, false, false, false, false, false, false, false, false, false, false] (by kernel_rfl) rfl rfl (⟨yb1, y1, y0, yb0⟩) (fun hHeld => ?_)
   refine pure_ (i := 0) (N := some 34) (v := ?_) (a' := ?_) #[true, false, false, false, false, false, false, false, false, false, false, false, false, false, false, false, false, false, false] rfl rfl (by kernel_rfl) (fun _ _ _ h => h) (Or.inl ⟨by rfl, ?_⟩) ?_ ?_
   rotate_left
   ·intro w'
    go_simp
    with_reducible rfl
   rotate_left
   ·simp only [Act.put, List.setIfInBounds_toArray, List.set_cons_zero, List.set_cons_succ, i64_w, i32_w]
    rfl
   refine take_ (i := 1) (N := some 35) (v := ?_) (a' := ?_) #[true, true, false, false, false, false, false, false, false, false, false, false, false, false, false, false, false, false, false] rfl rfl (by kernel_rfl) (fun _ _ _ h => h) (Or.inl ⟨by rfl, ?_⟩) hHeld ?_ ?_
   rotate_left
   ·rintro w' ⟨s0, s1, s2, s3⟩
    go_simp
    with_reducible rfl
   rotate_left
   ·simp only [Act.put, List.setIfInBounds_toArray, List.set_cons_zero, List.set_cons_succ, i64_w, i32_w]
    rfl
   refine pure_ (i := 2) (N := some 36) (v := ?_) (a' := ?_) #[true, true, true, false, false, false, false, false, false, false, false, false, false, false, false, false, false, false, false] rfl rfl (by kernel_rfl) (fun _ _ _ h => h) (Or.inl ⟨by rfl, ?_⟩) ?_ ?_
   rotate_left
   ·intro w'
    go_simp
    with_reducible rfl
   rotate_left
   ·simp only [Act.put, List.setIfInBounds_toArray, List.set_cons_zero, List.set_cons_succ, i64_w, i32_w]
    rfl
   refine take_ (i := 3) (N := some 37) (v := ?_) (a' := ?_) #[true, true, true, true, false, false, false, false, false, false, false, false, false, false, false, false, false, false, false] rfl rfl (by kernel_rfl) (fun _ _ _ h => h) (Or.inl ⟨by rfl, ?_⟩) hHeld ?_ ?_
   rotate_left
   ·rintro w' ⟨s0, s1, s2, s3⟩
    go_simp
    with_reducible rfl
   rotate_left
   ·simp only [Act.put, List.setIfInBounds_toArray, List.set_cons_zero, List.set_cons_succ, i64_w, i32_w]
    rfl
   refine pure_ (i := 4) (N := some 38) (v := ?_) (a' := ?_) #[true, true, true, true, true, false, false, false, false, false, false, false, false, false, false, false, false, false, false] rfl rfl (by kernel_rfl) (fun _ _ _ h => h) (Or.inl ⟨by rfl, ?_⟩) ?_ ?_
   rotate_left
   ·intro w'
    go_simp
    with_reducible rfl
   rotate_left
   ·simp only [Act.put, List.setIfInBounds_toArray, List.set_cons_zero, List.set_cons_succ, i64_w, i32_w]
    rfl
   refine take_ (i := 5) (N := some 39) (v := ?_) (a' := ?_) #[true, true, true, true, true, true, false, false, false, false, false, false, false, false, false, false, false, false, false] rfl rfl (by kernel_rfl) (fun _ _ _ h => h) (Or.inl ⟨by rfl, ?_⟩) hHeld ?_ ?_
   rotate_left
   ·rintro w' ⟨s0, s1, s2, s3⟩
    go_simp
    with_reducible rfl
   rotate_left
   ·simp only [Act.put, List.setIfInBounds_toArray, List.set_cons_zero, List.set_cons_succ, i64_w, i32_w]
    rfl
   refine pure_ (i := 6) (N := some 40) (v := ?_) (a' := ?_) #[true, true, true, true, true, true, true, false, false, false, false, false, false, false, false, false, false, false, false] rfl rfl (by kernel_rfl) (fun _ _ _ h => h) (Or.inl ⟨by rfl, ?_⟩) ?_ ?_
   rotate_left
   ·intro w'
    go_simp
    with_reducible rfl
   rotate_left
   ·simp only [Act.put, List.setIfInBounds_toArray, List.set_cons_zero, List.set_cons_succ, i64_w, i32_w]
    rfl
   refine pure_ (i := 7) (N := some 41) (v := ?_) (a' := ?_) #[true, true, true, true, true, true, true, true, false, false, false, false, false, false, false, false, false, false, false] rfl rfl (by kernel_rfl) (fun _ _ _ h => h) (Or.inl ⟨by rfl, ?_⟩) ?_ ?_
   rotate_left
   ·intro w'
    go_simp
    with_reducible rfl
   rotate_left
   ·simp only [Act.put, List.setIfInBounds_toArray, List.set_cons_zero, List.set_cons_succ, i64_w, i32_w]
    rfl
   refine pure_ (i := 8) (N := some 42) (v := ?_) (a' := ?_) #[true, true, true, true, true, true, true, true, true, false, false, false, false, false, false, false, false, false, false] rfl rfl (by kernel_rfl) (fun _ _ _ h => h) (Or.inl ⟨by rfl, ?_⟩) ?_ ?_
   rotate_left
   ·intro w'
    go_simp
    with_reducible rfl
   rotate_left
   ·simp only [Act.put, List.setIfInBounds_toArray, List.set_cons_zero, List.set_cons_succ, i64_w, i32_w]
    rfl
   refine take_ (i := 9) (N := some 43) (v := ?_) (a' := ?_) #[true, true, true, true, true, true, true, true, true, true, false, false, false, false, false, false, false, false, false] rfl rfl (by kernel_rfl) (fun _ _ _ h => h) (Or.inl ⟨by rfl, ?_⟩) hHeld ?_ ?_
   rotate_left
   ·rintro w' ⟨s0, s1, s2, s3⟩
    go_simp
    with_reducible rfl
   rotate_left
   ·simp only [Act.put, List.setIfInBounds_toArray, List.set_cons_zero, List.set_cons_succ, i64_w, i32_w]
    rfl
   refine pure_ (i := 10) (N := some 44) (v := ?_) (a' := ?_) #[true, true, true, true, true, true, true, true, true, true, true, false, false, false, false, false, false, false, false] rfl rfl (by kernel_rfl) (fun _ _ _ h => h) (Or.inl ⟨by rfl, ?_⟩) ?_ ?_
   rotate_left
   ·intro w'
    go_simp
    with_reducible rfl
   rotate_left
   ·simp only [Act.put, List.setIfInBounds_toArray, List.set_cons_zero, List.set_cons_succ, i64_w, i32_w]
    rfl
   refine take_ (i := 11) (N := some 45) (v := ?_) (a' := ?_) #[true, true, true, true, true, true, true, true, true, true, true, true, false, false, false, false, false, false, false] rfl rfl (by kernel_rfl) (fun _ _ _ h => h) (Or.inl ⟨by rfl, ?_⟩) hHeld ?_ ?_
   rotate_left
   ·rintro w' ⟨s0, s1, s2, s3⟩
    go_simp
    with_reducible rfl
   rotate_left
   ·simp only [Act.put, List.setIfInBounds_toArray, List.set_cons_zero, List.set_cons_succ, i64_w, i32_w]
    rfl
   refine pure_ (i := 12) (N := some 46) (v := ?_) (a' := ?_) #[true, true, true, true, true, true, true, true, true, true, true, true, true, false, false, false, false, false, false] rfl rfl (by kernel_rfl) (fun _ _ _ h => h) (Or.inl ⟨by rfl, ?_⟩) ?_ ?_
   rotate_left
   ·intro w'
    go_simp
    with_reducible rfl
   rotate_left
   ·simp only [Act.put, List.setIfInBounds_toArray, List.set_cons_zero, List.set_cons_succ, i64_w, i32_w]
    rfl
   refine take_ (i := 13) (N := some 47) (v := ?_) (a' := ?_) #[true, true, true, true, true, true, true, true, true, true, true, true, true, true, false, false, false, false, false] rfl rfl (by kernel_rfl) (fun _ _ _ h => h) (Or.inl ⟨by rfl, ?_⟩) hHeld ?_ ?_
   rotate_left
   ·rintro w' ⟨s0, s1, s2, s3⟩
    go_simp
    with_reducible rfl
   rotate_left
   ·simp only [Act.put, List.setIfInBounds_toArray, List.set_cons_zero, List.set_cons_succ, i64_w, i32_w]
    rfl
   refine pure_ (i := 14) (N := some 48) (v := ?_) (a' := ?_) #[true, true, true, true, true, true, true, true, true, true, true, true, true, true, true, false, false, false, false] rfl rfl (by kernel_rfl) (fun _ _ _ h => h) (Or.inl ⟨by rfl, ?_⟩) ?_ ?_
   rotate_left
   ·intro w'
    go_simp
    with_reducible rfl
   rotate_left
   ·simp only [Act.put, List.setIfInBounds_toArray, List.set_cons_zero, List.set_cons_succ, i64_w, i32_w]
    rfl
   refine pure_ (i := 15) (N := some 49) (v := ?_) (a' := ?_) #[true, true, true, true, true, true, true, true, true, true, true, true, true, true, true, true, false, false, false] rfl rfl (by kernel_rfl) (fun _ _ _ h => h) (Or.inl ⟨by rfl, ?_⟩) ?_ ?_
   rotate_left
   ·intro w'
    go_simp
    with_reducible rfl
   rotate_left
   ·simp only [Act.put, List.setIfInBounds_toArray, List.set_cons_zero, List.set_cons_succ, i64_w, i32_w]
    rfl
   refine pure_ (i := 16) (N := some 50) (v := ?_) (a' := ?_) #[true, true, true, true, true, true, true, true, true, true, true, true, true, true, true, true, true, false, false] rfl rfl (by kernel_rfl) (fun _ _ _ h => h) (Or.inl ⟨by rfl, ?_⟩) ?_ ?_
   rotate_left
   ·intro w'
    go_simp
    with_reducible rfl
   rotate_left
   ·simp only [Act.put, List.setIfInBounds_toArray, List.set_cons_zero, List.set_cons_succ, i64_w, i32_w]
    rfl
   refine pure_ (i := 17) (N := some 51) (v := ?_) (a' := ?_) #[true, true, true, true, true, true, true, true, true, true, true, true, true, true, true, true, true, true, false] rfl rfl (by kernel_rfl) (fun _ _ _ h => h) (Or.inl ⟨by rfl, ?_⟩) ?_ ?_
   rotate_left
   ·intro w'
    go_simp
    with_reducible rfl
   rotate_left
   ·simp only [Act.put, List.setIfInBounds_toArray, List.set_cons_zero, List.set_cons_succ, i64_w, i32_w]
    rfl
   refine last_ (i := 18) (N := none) #[true, true, true, true, true, true, true, true, true, true, true, true, true, true, true, true, true, true, true] rfl rfl (by kernel_rfl) (by decide) (fun K hK => ?_)
   refine skip_ (w1 := ?_) (by rfl) rfl ?_ ?_
   rotate_left
   ·go_simp
    rfl
   refine hK.out _ _ ?_
   clear hK K
   refine done_ (by kernel_rfl) ?_
   have hst := HL2.out.set (i := x.f0.toNat) hxb (cr_mix x.f1 old n)
   unfold cr_mix at hst
   have HL3 := Lib.hid (hst.below (below_drew1 (Below.refl _ _)))
   clear hst y0 y1 y2 yb0 yb1 hHeld HL2 HYK HY
   go_wp2
   go_roundw
   case rel => exact ⟨k + 1, b.set x.f0.toNat (cr_mix x.f1 old n), by first | rfl | go_num, by omega, HL3, Lib.hid ⟨by rw [List.length_set]; exact HBL.out, fun y hy => (List.mem_or_eq_of_mem_set hy).elim (HI.out.2.1 y) (fun e => by rw [e]; exact cr_mix_size HXZ.out HOZ.out hnle), by rw [HI.out.2.2, HGO.out]⟩⟩
   case measure => simp [intOf]; omega


/-! ### bellmanref03_has: function 21 -/
def bellmanref03_has.l0 : Nat → Int → ByteArray → List (S39) → Int → Int → Option (ByteArray)
 | 0, _, _, _, _, _ => none
 | k + 1, x1, x5, x14, x15, x16 => if x16 < x15 then (if 0 ≤ x16 then (if x16 < (x14.length : Int) then (if ((rd_T39 x14 x16).f0) = x1 then (bellmanref03_has.l0 k x1 ((rd_T39 x14 x16).f1) x14 x15 (wrap64 (x16 + 1))) else (bellmanref03_has.l0 k x1 x5 x14 x15 (wrap64 (x16 + 1)))) else (none)) else (none)) else (some x5)
def bellmanref03_has.f (k : Nat) (l0_0 : List ByteArray) (l0_1 : List (S39)) (a0_2 : Int) (a0_3 : Bool) (a1 : Int) : Option (ByteArray) := if 0 ≤ a1 then (if a1 < (l0_0.length : Int) then (bellmanref03_has.l0 k a1 (rdOf ByteArray.empty l0_0 a1) l0_1 (l0_1.length : Int) 0) else (none)) else (none)
theorem bellmanref03_has.mono_l : ∀ k, (∀ y0 y1 y2 y3 y4, LeO (bellmanref03_has.l0 k y0 y1 y2 y3 y4) (bellmanref03_has.l0 (k + 1) y0 y1 y2 y3 y4))
 | 0 => fun _ _ _ _ _ r h => by simp [bellmanref03_has.l0] at h
 | k + 1 => by
  have ih0 := bellmanref03_has.mono_l k
  ·intro y0 y1 y2 y3 y4
   unfold bellmanref03_has.l0
   repeat' first
   | (with_reducible exact ih0 _ _ _ _ _)
   | (with_reducible exact LeO.refl _)
   | (with_reducible exact LeO.none _)
   | (with_reducible refine LeO.ite ?_ ?_)
   | (with_reducible refine LeO.bind ?_ (fun _ => ?_))
   | exact ih0 _ _ _ _ _
   | exact LeO.none _
   | refine LeO.ite ?_ ?_
   | refine LeO.bind ?_ (fun _ => ?_)
theorem bellmanref03_has.mono : ∀ a0 a1 a2 a3 a4 k, LeO (bellmanref03_has.f k a0 a1 a2 a3 a4) (bellmanref03_has.f (k + 1) a0 a1 a2 a3 a4) := by
 intro a0 a1 a2 a3 a4 k
 have ih0 := bellmanref03_has.mono_l k
 unfold bellmanref03_has.f
 repeat' first
   | (with_reducible exact ih0 _ _ _ _ _)
   | (with_reducible exact LeO.refl _)
   | (with_reducible exact LeO.none _)
   | (with_reducible refine LeO.ite ?_ ?_)
   | (with_reducible refine LeO.bind ?_ (fun _ => ?_))
   | exact ih0 _ _ _ _ _
   | exact LeO.none _
   | refine LeO.ite ?_ ?_
   | refine LeO.bind ?_ (fun _ => ?_)
set_option maxHeartbeats 8000000 in
set_option maxRecDepth 100000 in
theorem bellmanref03_has.calls (k : Nat) (A0_0 : Option Addr) (c0_0 : Nat) (l0_0 : List ByteArray) (A0_1 : Option Addr) (c0_1 : Nat) (l0_1 : List (S39)) (a0_2 : Int) (a0_3 : Bool) (a1 : Int) (r : ByteArray) (w : World) (hr0_0 : Kd.C Kd.string w A0_0 l0_0.length l0_0) (hc0_0 : l0_0.length ≤ c0_0) (hr0_1 : Kd.C k39 w A0_1 l0_1.length l0_1) (hc0_1 : l0_1.length ≤ c0_1) (h : bellmanref03_has.f k l0_0 l0_1 a0_2 a0_3 a1 = some r) :
  Calls Try.prog 21 #[.agg #[.slice A0_0 l0_0.length c0_0, .slice A0_1 l0_1.length c0_1, .int .i64 a0_2, .bool a0_3], .int .i64 a1] w fun e w' => e = .returned (.string r) ∧ Below w.heap.size w w' := by
 have hu25 := Try.underlying25
 have hu39 := Try.underlying39
 have HR0_0 := Aside0.mk hr0_0
 have HC0_0 := Aside0.mk hc0_0
 clear hr0_0 hc0_0
 have HR0_1 := Aside0.mk hr0_1
 have HC0_1 := Aside0.mk hc0_1
 clear hr0_1 hc0_1
 have HB := Aside0.mk (Below.refl w.heap.size w)
 have H : (if 0 ≤ a1 then (if a1 < (l0_0.length : Int) then (bellmanref03_has.l0 k a1 (rdOf ByteArray.empty l0_0 a1) l0_1 (l0_1.length : Int) 0) else (none)) else (none)) = some r := h
 clear h
 by_cases c3 : 0 ≤ a1
 ·rw [if_pos c3] at H
  have c3b0 : decide (0 ≤ a1) = true := decide_eq_true c3
  clear c3
  by_cases c4 : a1 < (l0_0.length : Int)
  ·rw [if_pos c4] at H
   have c4b0 : decide (a1 < (l0_0.length : Int)) = true := decide_eq_true c4
   clear c4
   have H' := Aside0.mk H
   clear H
   go_enter Try.func21, Try.ntmps21
   go_wp2_with (first | ((with_reducible refine gate_dst (N := 2) rfl ?_); refine box_event ?hg (N := 2) ?hd (cs := #[.slice A0_0 l0_0.length c0_0, .slice A0_1 l0_1.length c0_1, .int .i64 a0_2, .bool a0_3]) (t := 25) ?hr ?_; (case hd => rfl); (case hg => rfl); (case hr => first | (go_simp; done) | (go_simp; rfl)); intro gb122 hg w5 hbox hb; have n0_ := Aside0.mk (below_step (by repeat (first | (with_reducible first | exact HB.out | apply below_alloc | apply pw_below_drewN | apply below_drew1) | exact HB.out)) hb); have n1_ := Aside0.mk (hbox); have n2_ := Aside0.mk ((by rw [hg]; exact (below_size (by repeat (first | (with_reducible first | exact HB.out | apply below_alloc | apply pw_below_drewN | apply below_drew1) | exact HB.out))) : w.heap.size ≤ gb122)); have n3_ := Aside0.mk ((by rw [hg]; exact (below_size (by repeat (first | (with_reducible first | exact HB.out | apply below_alloc | apply pw_below_drewN | apply below_drew1) | exact HB.out))) : w.heap.size ≤ gb122)); clear HB; have HB := n0_; have BK122 := n1_; have GW122 := n2_; have GE122 := n3_; clear n0_ n1_ n2_ n3_; clear hb hbox hg; have hcz6_0 : w5.cell? ⟨gb122, 0, none⟩ = some (.slice A0_0 l0_0.length c0_0) := (blk_cell BK122.out 0).trans rfl; have hcz6_1 : w5.cell? ⟨gb122, 1, none⟩ = some (.slice A0_1 l0_1.length c0_1) := (blk_cell BK122.out 1).trans rfl; have hcz6_2 : w5.cell? ⟨gb122, 2, none⟩ = some (.int .i64 a0_2) := (blk_cell BK122.out 2).trans rfl; have hcz6_3 : w5.cell? ⟨gb122, 3, none⟩ = some (.bool a0_3) := (blk_cell BK122.out 3).trans rfl; have hfz6_0 := blk_frozen BK122.out 0; have hfz6_1 := blk_frozen BK122.out 1; have hfz6_2 := blk_frozen BK122.out 2; have hfz6_3 := blk_frozen BK122.out 3; have p123 : 0 ≤ (a1 : Int) := of_decide_eq_true (by first | (with_reducible assumption) | assumption); have q123 : a1 < (l0_0.length : Int) := of_decide_eq_true (by first | (with_reducible assumption) | assumption); obtain ⟨ad123, e123, hx123_0⟩ := Kd.at_string HR0_0.out a1 p123 q123; cases e123; replace hx123_0 := (HB.out.cell (World.block_lt_of_cell? w _ hx123_0)).trans hx123_0; replace p123 := eq_true p123; replace q123 := eq_true q123))
   go_loopg [5, 16] k (fun kq v5 v16 w' => ∃ (x5_1 : ByteArray) (x16_1 : Int), v5 = .string x5_1 ∧ v16 = .int .i64 x16_1 ∧ Aside0 (bellmanref03_has.l0 kq a1 x5_1 l0_1 (l0_1.length : Int) x16_1 = some r) ∧ Aside0 (kq ≤ k) ∧ Aside0 (w'.heap[gb122]? = some (.cells #[(.slice (some ad123) l0_0.length c0_0), (.slice A0_1 l0_1.length c0_1), .int .i64 a0_2, .bool a0_3] 25 (0, 0))) ∧ Aside0 (Below w.heap.size w w'))
   case atStart => exact ⟨(rdOf ByteArray.empty l0_0 a1), (0), (by first | rfl | (simp; done) | (simp [*]; done)), (by first | rfl | (simp; done) | (simp [*]; done)), H', ⟨Nat.le_refl _⟩, ⟨by (with_reducible repeat (first | refine blk_drewN ?_ _ | refine blk_drew ?_ | refine blk_alloc ?_ _)); exact BK122.out⟩, ⟨by repeat (first | (with_reducible first | exact HB.out | apply below_alloc | apply pw_below_drewN | apply below_drew1 | refine below_set ?_ GE122.out) | exact HB.out)⟩⟩
   case round =>
    clear H'
    try clear p1
    try clear q1
    try clear hx1
    try clear c2
    try clear p2
    try clear c3
    try clear c3b0
    try clear c4
    try clear c4b0
    try clear hcz6_0
    try clear hcz6_1
    try clear hcz6_2
    try clear hcz6_3
    try clear hfz6_0
    try clear hfz6_1
    try clear hfz6_2
    try clear hfz6_3
    try clear hx123_0
    try clear p123
    try clear q123
    obtain ⟨x5_1, x16_1, rfl, rfl, HA, HK1, BK122, HB⟩ := hrel
    cases gk with
    | zero => exact absurd HA.out (by simp [bellmanref03_has.l0])
    | succ k1 =>
     have H := HA.out
     clear HA
     simp only [bellmanref03_has.l0] at H
     by_cases c7 : x16_1 < (l0_1.length : Int)
     ·rw [if_pos c7] at H
      have c7b0 : decide (x16_1 < (l0_1.length : Int)) = true := decide_eq_true c7
      clear c7
      by_cases c8 : 0 ≤ x16_1
      ·rw [if_pos c8] at H
       have c8b0 : decide (0 ≤ x16_1) = true := decide_eq_true c8
       clear c8
       by_cases c9 : x16_1 < (l0_1.length : Int)
       ·rw [if_pos c9] at H
        have c9b0 : decide (x16_1 < (l0_1.length : Int)) = true := decide_eq_true c9
        clear c9
        by_cases c10 : ((rd_T39 l0_1 x16_1).f0) = a1
        ·rw [if_pos c10] at H
         have c10b0 : (((rd_T39 l0_1 x16_1).f0) == a1) = true := beq_iff_eq.mpr c10
         have c10b1 : (((rd_T39 l0_1 x16_1).f0) != a1) = false := bne_eq_false_iff_eq.mpr c10
         clear c10
         have H' := Aside0.mk H
         clear H
         have p124 : 0 ≤ (x16_1 : Int) := of_decide_eq_true (by first | (with_reducible assumption) | assumption)
         have q124 : x16_1 < (l0_1.length : Int) := of_decide_eq_true (by first | (with_reducible assumption) | assumption)
         obtain ⟨ad124, e124, hx124_0, hx124_1⟩ := at_T39 HR0_1.out x16_1 p124 q124
         cases e124
         replace hx124_0 := (HB.out.cell (World.block_lt_of_cell? w _ hx124_0)).trans hx124_0
         replace hx124_1 := (HB.out.cell (World.block_lt_of_cell? w _ hx124_1)).trans hx124_1
         replace p124 := eq_true p124
         replace q124 := eq_true q124
         go_wp2_with (first | ((with_reducible refine gate_dst (N := 7) rfl ?_); refine box_event ?hg (N := 7) ?hd (cs := #[.int .i64 0, .string (⟨#[]⟩ : ByteArray)]) (t := 39) ?hr ?_; (case hd => rfl); (case hg => rfl); (case hr => first | (go_simp; done) | (go_simp; rfl)); intro gb125 hg w11 hbox hb; have n0_ := Aside0.mk (blk_below (g := gb122) (o := .cells #[.slice (some ad123) l0_0.length c0_0, .slice (some ad124) l0_1.length c0_1, .int .i64 a0_2, .bool a0_3] 25 (0, 0)) (by (with_reducible repeat (first | refine blk_drewN ?_ _ | refine blk_drew ?_ | refine blk_alloc ?_ _)); exact BK122.out) hb); have n1_ := Aside0.mk (below_step (by repeat (first | (with_reducible first | exact HB.out | apply below_alloc | apply pw_below_drewN | apply below_drew1 | refine below_set ?_ GE122.out) | exact HB.out)) hb); have n2_ := Aside0.mk (hbox); have n3_ := Aside0.mk ((by rw [hg]; exact (below_size (by repeat (first | (with_reducible first | exact HB.out | apply below_alloc | apply pw_below_drewN | apply below_drew1 | refine below_set ?_ GE122.out) | exact HB.out))) : w.heap.size ≤ gb125)); have n4_ := Aside0.mk ((by rw [hg]; exact (below_size (by repeat (first | (with_reducible first | exact HB.out | apply below_alloc | apply pw_below_drewN | apply below_drew1 | refine below_set ?_ GE122.out) | exact HB.out))) : w.heap.size ≤ gb125)); have n5_ := Aside0.mk ((by rw [hg]; exact Nat.ne_of_lt (blk_lt (g := gb122) (o := .cells #[.slice (some ad123) l0_0.length c0_0, .slice (some ad124) l0_1.length c0_1, .int .i64 a0_2, .bool a0_3] 25 (0, 0)) (by (with_reducible repeat (first | refine blk_drewN ?_ _ | refine blk_drew ?_ | refine blk_alloc ?_ _)); exact BK122.out)) : gb122 ≠ gb125)); have n6_ := Aside0.mk ((by rw [hg]; exact Nat.ne_of_gt (blk_lt (g := gb122) (o := .cells #[.slice (some ad123) l0_0.length c0_0, .slice (some ad124) l0_1.length c0_1, .int .i64 a0_2, .bool a0_3] 25 (0, 0)) (by (with_reducible repeat (first | refine blk_drewN ?_ _ | refine blk_drew ?_ | refine blk_alloc ?_ _)); exact BK122.out)) : gb125 ≠ gb122)); clear BK122; clear HB; have BK122 := n0_; have HB := n1_; have BK125 := n2_; have GW125 := n3_; have GE125 := n4_; have NB122_125 := n5_; have NB125_122 := n6_; clear n0_ n1_ n2_ n3_ n4_ n5_ n6_; clear hb hbox hg; have hnb12 := NB125_122.out; have hnc12 := NB122_125.out; have hcz13_0 : w11.cell? ⟨gb125, 0, none⟩ = some (.int .i64 0) := (blk_cell BK125.out 0).trans rfl; have hcz13_1 : w11.cell? ⟨gb125, 1, none⟩ = some (.string (⟨#[]⟩ : ByteArray)) := (blk_cell BK125.out 1).trans rfl; have hfz13_0 := blk_frozen BK125.out 0; have hfz13_1 := blk_frozen BK125.out 1))
         go_roundg k1
         case measure => have := HK1.out; omega
         case rel => exact ⟨((rd_T39 l0_1 x16_1).f1), (wrap64 (x16_1 + 1)), (by first | rfl | (simp; done) | (simp [*]; done)), (by first | rfl | (simp; done) | (simp [*]; done)), H', ⟨by have := HK1.out; omega⟩, ⟨by (with_reducible repeat (first | refine blk_drewN ?_ _ | refine blk_drew ?_ | refine blk_alloc ?_ _)); refine blk_far ?_ NB122_125.out _; (with_reducible repeat (first | refine blk_drewN ?_ _ | refine blk_drew ?_ | refine blk_alloc ?_ _)); refine blk_far ?_ NB122_125.out _; (with_reducible repeat (first | refine blk_drewN ?_ _ | refine blk_drew ?_ | refine blk_alloc ?_ _)); exact BK122.out⟩, ⟨by repeat (first | (with_reducible first | exact HB.out | apply below_alloc | apply pw_below_drewN | apply below_drew1 | refine below_set ?_ GE122.out | refine below_set ?_ GE125.out) | exact HB.out)⟩⟩
        ·rw [if_neg c10] at H
         have c10b0 : (((rd_T39 l0_1 x16_1).f0) == a1) = false := beq_eq_false_iff_ne.mpr c10
         have c10b1 : (((rd_T39 l0_1 x16_1).f0) != a1) = true := bne_iff_ne.mpr c10
         have H' := Aside0.mk H
         clear H
         have p124 : 0 ≤ (x16_1 : Int) := of_decide_eq_true (by first | (with_reducible assumption) | assumption)
         have q124 : x16_1 < (l0_1.length : Int) := of_decide_eq_true (by first | (with_reducible assumption) | assumption)
         obtain ⟨ad124, e124, hx124_0, hx124_1⟩ := at_T39 HR0_1.out x16_1 p124 q124
         cases e124
         replace hx124_0 := (HB.out.cell (World.block_lt_of_cell? w _ hx124_0)).trans hx124_0
         replace hx124_1 := (HB.out.cell (World.block_lt_of_cell? w _ hx124_1)).trans hx124_1
         replace p124 := eq_true p124
         replace q124 := eq_true q124
         go_wp2_with (first | ((with_reducible refine gate_dst (N := 7) rfl ?_); refine box_event ?hg (N := 7) ?hd (cs := #[.int .i64 0, .string (⟨#[]⟩ : ByteArray)]) (t := 39) ?hr ?_; (case hd => rfl); (case hg => rfl); (case hr => first | (go_simp; done) | (go_simp; rfl)); intro gb125 hg w14 hbox hb; have n0_ := Aside0.mk (blk_below (g := gb122) (o := .cells #[.slice (some ad123) l0_0.length c0_0, .slice (some ad124) l0_1.length c0_1, .int .i64 a0_2, .bool a0_3] 25 (0, 0)) (by (with_reducible repeat (first | refine blk_drewN ?_ _ | refine blk_drew ?_ | refine blk_alloc ?_ _)); exact BK122.out) hb); have n1_ := Aside0.mk (below_step (by repeat (first | (with_reducible first | exact HB.out | apply below_alloc | apply pw_below_drewN | apply below_drew1 | refine below_set ?_ GE122.out) | exact HB.out)) hb); have n2_ := Aside0.mk (hbox); have n3_ := Aside0.mk ((by rw [hg]; exact (below_size (by repeat (first | (with_reducible first | exact HB.out | apply below_alloc | apply pw_below_drewN | apply below_drew1 | refine below_set ?_ GE122.out) | exact HB.out))) : w.heap.size ≤ gb125)); have n4_ := Aside0.mk ((by rw [hg]; exact (below_size (by repeat (first | (with_reducible first | exact HB.out | apply below_alloc | apply pw_below_drewN | apply below_drew1 | refine below_set ?_ GE122.out) | exact HB.out))) : w.heap.size ≤ gb125)); have n5_ := Aside0.mk ((by rw [hg]; exact Nat.ne_of_lt (blk_lt (g := gb122) (o := .cells #[.slice (some ad123) l0_0.length c0_0, .slice (some ad124) l0_1.length c0_1, .int .i64 a0_2, .bool a0_3] 25 (0, 0)) (by (with_reducible repeat (first | refine blk_drewN ?_ _ | refine blk_drew ?_ | refine blk_alloc ?_ _)); exact BK122.out)) : gb122 ≠ gb125)); have n6_ := Aside0.mk ((by rw [hg]; exact Nat.ne_of_gt (blk_lt (g := gb122) (o := .cells #[.slice (some ad123) l0_0.length c0_0, .slice (some ad124) l0_1.length c0_1, .int .i64 a0_2, .bool a0_3] 25 (0, 0)) (by (with_reducible repeat (first | refine blk_drewN ?_ _ | refine blk_drew ?_ | refine blk_alloc ?_ _)); exact BK122.out)) : gb125 ≠ gb122)); clear BK122; clear HB; have BK122 := n0_; have HB := n1_; have BK125 := n2_; have GW125 := n3_; have GE125 := n4_; have NB122_125 := n5_; have NB125_122 := n6_; clear n0_ n1_ n2_ n3_ n4_ n5_ n6_; clear hb hbox hg; have hnb15 := NB125_122.out; have hnc15 := NB122_125.out; have hcz16_0 : w14.cell? ⟨gb125, 0, none⟩ = some (.int .i64 0) := (blk_cell BK125.out 0).trans rfl; have hcz16_1 : w14.cell? ⟨gb125, 1, none⟩ = some (.string (⟨#[]⟩ : ByteArray)) := (blk_cell BK125.out 1).trans rfl; have hfz16_0 := blk_frozen BK125.out 0; have hfz16_1 := blk_frozen BK125.out 1))
         go_roundg k1
         case measure => have := HK1.out; omega
         case rel => exact ⟨(x5_1), (wrap64 (x16_1 + 1)), (by first | rfl | (simp; done) | (simp [*]; done)), (by first | rfl | (simp; done) | (simp [*]; done)), H', ⟨by have := HK1.out; omega⟩, ⟨by (with_reducible repeat (first | refine blk_drewN ?_ _ | refine blk_drew ?_ | refine blk_alloc ?_ _)); refine blk_far ?_ NB122_125.out _; (with_reducible repeat (first | refine blk_drewN ?_ _ | refine blk_drew ?_ | refine blk_alloc ?_ _)); refine blk_far ?_ NB122_125.out _; (with_reducible repeat (first | refine blk_drewN ?_ _ | refine blk_drew ?_ | refine blk_alloc ?_ _)); exact BK122.out⟩, ⟨by repeat (first | (with_reducible first | exact HB.out | apply below_alloc | apply pw_below_drewN | apply below_drew1 | refine below_set ?_ GE122.out | refine below_set ?_ GE125.out) | exact HB.out)⟩⟩
       ·rw [if_neg c9] at H
        exact absurd H (by simp)
      ·rw [if_neg c8] at H
       exact absurd H (by simp)
     ·rw [if_neg c7] at H
      have c7b0 : decide (x16_1 < (l0_1.length : Int)) = false := decide_eq_false c7
      clear c7
      obtain rfl := Option.some.inj H
      go_wp2
      go_ret
      exact ⟨by first | rfl | (simp [errW_none, errW_some] <;> rfl) | (simp [*, errW_none, errW_some] <;> rfl), by repeat (first | (with_reducible first | exact HB.out | apply below_alloc | apply pw_below_drewN | apply below_drew1 | refine below_set ?_ GE122.out) | exact HB.out)⟩
  ·rw [if_neg c4] at H
   exact absurd H (by simp)
 ·rw [if_neg c3] at H
  exact absurd H (by simp)

end Go.Proofs.Ytedbbpefogcjnaa.XB
-- squeezed
