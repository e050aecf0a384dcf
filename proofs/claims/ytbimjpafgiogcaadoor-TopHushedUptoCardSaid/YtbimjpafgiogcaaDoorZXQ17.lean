-- by px.py, a program of this session, over the kit's printer: functions given by hand stand beside printed ones. Lean checks all of it.
import Derived.Test.YtbimjpafgiogcaaDoorZXQ0
import Derived.Test.YtbimjpafgiogcaaDoorZXQ4
import Derived.Test.YtbimjpafgiogcaaDoorZXQ16
import Derived.Test.YtbimjpafgiogcaaDoorZGIdx
import Derived.Test.YtbimjpafgiogcaaDoorZGA
import Derived.Deep.QuietTactic
import Derived.BigQuiet
namespace Go.Proofs.YtbimjpafgiogcaaDoor.XQ
open Go.RowKit Go.Proofs.YtbimjpafgiogcaaDoorW.PrintWords Go.Proofs.YtbimjpafgiogcaaDoorW.PrintLast Go.Proofs.YtbimjpafgiogcaaDoorW.PrintMore
attribute [local go_sem] max2_int min2_int max_two min_two max_three min_three max_four min_four   -- for this text's walks alone
set_option linter.unusedVariables false
set_option linter.unusedSimpArgs false

def week_Sum.l0 : Nat → Int → List (S45) → Int → Int → Option (Int × Int)
 | 0, _, _, _, _ => none
 | k + 1, x5, x13, x14, x15 => if x15 < x14 then (if 0 ≤ x15 then (if x15 < (x13.length : Int) then (week_Sum.l0 k (wrap64 (x5 + (wrap64 (((rd_T45 x13 x15).f1) - ((rd_T45 x13 x15).f0))))) x13 x14 (wrap64 (x15 + 1))) else (none)) else (none)) else (some (x5, 0))
def week_Sum.f (k : Nat) (l0 : List (S45)) : Option (Int × Int) := (week_Check.f k l0).bind fun t288 => (if t288 = 0 then (week_Sum.l0 k 0 l0 (l0.length : Int) 0) else (some (0, t288)))
set_option maxHeartbeats 8000000 in
set_option maxRecDepth 100000 in
theorem week_Sum.calls (k : Nat) (A0 : Option Addr) (c0 : Nat) (l0 : List (S45)) (r1 : Int) (r2 : Int) (w : World) (hr0 : Kd.C k45 w A0 l0.length l0) (hc0 : l0.length ≤ c0) (h : week_Sum.f k l0 = some (r1, r2)) :
  Calls Tryd.prog 27 #[.slice A0 l0.length c0] w fun e w' => e = .returned (.tuple #[.int .i64 r1, .int .i64 r2]) ∧ Below w.heap.size w w' := by
 have hu45 := Tryd.underlying45
 have HR0 := Aside0.mk hr0
 have HC0 := Aside0.mk hc0
 clear hr0 hc0
 have HB := Aside0.mk (Below.refl w.heap.size w)
 have H : ((week_Check.f k l0).bind fun t288 => (if t288 = 0 then (week_Sum.l0 k 0 l0 (l0.length : Int) 0) else (some (0, t288)))) = some (r1, r2) := h
 clear h
 replace H := Option.bind_eq_some_iff.mp H
 obtain ⟨t288, A20, H⟩ := H
 replace H : (if t288 = 0 then (week_Sum.l0 k 0 l0 (l0.length : Int) 0) else (some (0, t288))) = some (r1, r2) := H
 have A2 := Aside0.mk A20
 clear A20
 by_cases c3 : t288 = 0
 ·rw [if_pos c3] at H
  have c3b0 : (t288 == 0) = true := beq_iff_eq.mpr c3
  have c3b1 : (t288 != 0) = false := bne_eq_false_iff_eq.mpr c3
  clear c3
  have H' := Aside0.mk H
  clear H
  go_enter Tryd.func27, Tryd.ntmps27
  go_wp2_with (first | ((with_reducible refine gate_callee (f := 19) rfl ?_); refine goesL_ (some 9) rfl rfl Tryd.func19 (by kernel_rfl) rfl #[.slice A0 l0.length c0] rfl (by (try simp only [List.map_toArray, List.map_cons, List.map_nil]); first | done | rfl | (simp only [List.length_drop, List.length_take]; rfl)) ?_; (with_reducible refine (week_Check.calls k _ _ l0 t288 _ ?side1 ?side2 A2.out).mono ?_); (case side1 => repeat (first | exact HR0.out | (with_reducible refine Kd.C_alloc ?_ _) | (with_reducible refine Kd.C_drewN ?_ _) | (with_reducible refine Kd.C_drew ?_))); (case side2 => exact HC0.out); rintro e w4 ⟨rfl, hb⟩; refine ⟨_, rfl, ?_⟩; have n0_ := Aside0.mk (below_step (by repeat (first | (with_reducible first | exact HB.out | apply below_alloc | apply pw_below_drewN | apply below_drew1) | exact HB.out)) hb); clear HB; have HB := n0_; clear n0_; (try clear hb); (try clear hb2); (try clear hk); (try clear hi)))
  go_loopg [5, 15] k (fun kq v5 v15 w' => ∃ (x5_1 : Int) (x15_1 : Int), v5 = .int .i64 x5_1 ∧ v15 = .int .i64 x15_1 ∧ Aside0 (week_Sum.l0 kq x5_1 l0 (l0.length : Int) x15_1 = some (r1, r2)) ∧ Aside0 (kq ≤ k) ∧ Aside0 (Below w.heap.size w w'))
  case atStart => exact ⟨(0), (0), (by first | rfl | (simp; done) | (simp [*]; done)), (by first | rfl | (simp; done) | (simp [*]; done)), H', ⟨Nat.le_refl _⟩, ⟨by repeat (first | (with_reducible first | exact HB.out | apply below_alloc | apply pw_below_drewN | apply below_drew1) | exact HB.out)⟩⟩
  case round =>
   clear H'
   try clear c1
   try clear c2
   try clear p2
   try clear c3
   try clear c3b0
   try clear c3b1
   obtain ⟨x5_1, x15_1, rfl, rfl, HA, HK1, HB⟩ := hrel
   cases gk with
   | zero => exact absurd HA.out (by simp [week_Sum.l0])
   | succ k1 =>
    have H := HA.out
    clear HA
    simp only [week_Sum.l0] at H
    by_cases c5 : x15_1 < (l0.length : Int)
    ·rw [if_pos c5] at H
     have c5b0 : decide (x15_1 < (l0.length : Int)) = true := decide_eq_true c5
     clear c5
     by_cases c6 : 0 ≤ x15_1
     ·rw [if_pos c6] at H
      have c6b0 : decide (0 ≤ x15_1) = true := decide_eq_true c6
      clear c6
      by_cases c7 : x15_1 < (l0.length : Int)
      ·rw [if_pos c7] at H
       have c7b0 : decide (x15_1 < (l0.length : Int)) = true := decide_eq_true c7
       clear c7
       have H' := Aside0.mk H
       clear H
       have p289 : 0 ≤ (x15_1 : Int) := of_decide_eq_true (by first | (with_reducible assumption) | assumption)
       have q289 : x15_1 < (l0.length : Int) := of_decide_eq_true (by first | (with_reducible assumption) | assumption)
       obtain ⟨ad289, e289, hx289_0, hx289_1⟩ := at_T45 HR0.out x15_1 p289 q289
       cases e289
       replace hx289_0 := (HB.out.cell (World.block_lt_of_cell? w _ hx289_0)).trans hx289_0
       replace hx289_1 := (HB.out.cell (World.block_lt_of_cell? w _ hx289_1)).trans hx289_1
       replace p289 := eq_true p289
       replace q289 := eq_true q289
       go_wp2_with (first | ((with_reducible refine gate_dst (N := 7) rfl ?_); refine box_event ?hg (N := 7) ?hd (cs := #[.int .i64 0, .int .i64 0]) (t := 45) ?hr ?_; (case hd => rfl); (case hg => rfl); (case hr => first | (go_simp; done) | (go_simp; rfl)); intro gb290 hg w8 hbox hb; have n0_ := Aside0.mk (below_step (by repeat (first | (with_reducible first | exact HB.out | apply below_alloc | apply pw_below_drewN | apply below_drew1) | exact HB.out)) hb); have n1_ := Aside0.mk (hbox); have n2_ := Aside0.mk ((by rw [hg]; exact (below_size (by repeat (first | (with_reducible first | exact HB.out | apply below_alloc | apply pw_below_drewN | apply below_drew1) | exact HB.out))) : w.heap.size ≤ gb290)); have n3_ := Aside0.mk ((by rw [hg]; exact (below_size (by repeat (first | (with_reducible first | exact HB.out | apply below_alloc | apply pw_below_drewN | apply below_drew1) | exact HB.out))) : w.heap.size ≤ gb290)); clear HB; have HB := n0_; have BK290 := n1_; have GW290 := n2_; have GE290 := n3_; clear n0_ n1_ n2_ n3_; clear hb hbox hg; have hcz9_0 : w8.cell? ⟨gb290, 0, none⟩ = some (.int .i64 0) := (blk_cell BK290.out 0).trans rfl; have hcz9_1 : w8.cell? ⟨gb290, 1, none⟩ = some (.int .i64 0) := (blk_cell BK290.out 1).trans rfl; have hfz9_0 := blk_frozen BK290.out 0; have hfz9_1 := blk_frozen BK290.out 1))
       go_roundg k1
       case measure => have := HK1.out; omega
       case rel => exact ⟨(wrap64 (x5_1 + (wrap64 (((rd_T45 l0 x15_1).f1) - ((rd_T45 l0 x15_1).f0))))), (wrap64 (x15_1 + 1)), (by first | rfl | (simp; done) | (simp [*]; done)), (by first | rfl | (simp; done) | (simp [*]; done)), H', ⟨by have := HK1.out; omega⟩, ⟨by repeat (first | (with_reducible first | exact HB.out | apply below_alloc | apply pw_below_drewN | apply below_drew1 | refine below_set ?_ GE290.out) | exact HB.out)⟩⟩
      ·rw [if_neg c7] at H
       exact absurd H (by simp)
     ·rw [if_neg c6] at H
      exact absurd H (by simp)
    ·rw [if_neg c5] at H
     have c5b0 : decide (x15_1 < (l0.length : Int)) = false := decide_eq_false c5
     clear c5
     simp only [Option.some.injEq, Prod.mk.injEq] at H
     obtain ⟨rfl, rfl⟩ := H
     go_wp2
     go_ret2
     exact ⟨by first | rfl | (simp [errW_none, errW_some] <;> rfl) | (simp [*, errW_none, errW_some] <;> rfl), by repeat (first | (with_reducible first | exact HB.out | apply below_alloc | apply pw_below_drewN | apply below_drew1) | exact HB.out)⟩
 ·rw [if_neg c3] at H
  have c3b0 : (t288 == 0) = false := beq_eq_false_iff_ne.mpr c3
  have c3b1 : (t288 != 0) = true := bne_iff_ne.mpr c3
  simp only [Option.some.injEq, Prod.mk.injEq] at H
  obtain ⟨rfl, rfl⟩ := H
  go_enter Tryd.func27, Tryd.ntmps27
  go_wp2_with (first | ((with_reducible refine gate_callee (f := 19) rfl ?_); refine goesL_ (some 9) rfl rfl Tryd.func19 (by kernel_rfl) rfl #[.slice A0 l0.length c0] rfl (by (try simp only [List.map_toArray, List.map_cons, List.map_nil]); first | done | rfl | (simp only [List.length_drop, List.length_take]; rfl)) ?_; (with_reducible refine (week_Check.calls k _ _ l0 t288 _ ?side1 ?side2 A2.out).mono ?_); (case side1 => repeat (first | exact HR0.out | (with_reducible refine Kd.C_alloc ?_ _) | (with_reducible refine Kd.C_drewN ?_ _) | (with_reducible refine Kd.C_drew ?_))); (case side2 => exact HC0.out); rintro e w10 ⟨rfl, hb⟩; refine ⟨_, rfl, ?_⟩; have n0_ := Aside0.mk (below_step (by repeat (first | (with_reducible first | exact HB.out | apply below_alloc | apply pw_below_drewN | apply below_drew1) | exact HB.out)) hb); clear HB; have HB := n0_; clear n0_; (try clear hb); (try clear hb2); (try clear hk); (try clear hi)))
  go_ret2
  exact ⟨by first | rfl | (simp [errW_none, errW_some] <;> rfl) | (simp [*, errW_none, errW_some] <;> rfl), by repeat (first | (with_reducible first | exact HB.out | apply below_alloc | apply pw_below_drewN | apply below_drew1) | exact HB.out)⟩

def quiet_floor.f (a0 : Int) : Option (Int) := if (Int.tmod a0 60) < 0 then (some (wrap64 ((wrap64 (a0 - (Int.tmod a0 60))) - 60))) else (some (wrap64 (a0 - (Int.tmod a0 60))))
set_option maxHeartbeats 8000000 in
set_option maxRecDepth 100000 in
theorem quiet_floor.calls (a0 : Int) (r : Int) (w : World) (h : quiet_floor.f a0 = some r) :
  Calls Tryd.prog 38 #[.int .i64 a0] w fun e w' => e = .returned (.int .i64 r) ∧ Drawn0 w w' := by
 have H : (if (Int.tmod a0 60) < 0 then (some (wrap64 ((wrap64 (a0 - (Int.tmod a0 60))) - 60))) else (some (wrap64 (a0 - (Int.tmod a0 60))))) = some r := h
 clear h
 by_cases c2 : (Int.tmod a0 60) < 0
 ·rw [if_pos c2] at H
  have c2b0 : decide ((Int.tmod a0 60) < 0) = true := decide_eq_true c2
  clear c2
  obtain rfl := Option.some.inj H
  go_enter Tryd.func38, Tryd.ntmps38
  go_wp2
  go_ret
  exact ⟨by first | rfl | (simp; done) | (simp [*]; done), by repeat (first | exact Drawn0.refl _ | apply Drawn0.step)⟩
 ·rw [if_neg c2] at H
  have c2b0 : decide ((Int.tmod a0 60) < 0) = false := decide_eq_false c2
  clear c2
  obtain rfl := Option.some.inj H
  go_enter Tryd.func38, Tryd.ntmps38
  go_wp2
  go_ret
  exact ⟨by first | rfl | (simp; done) | (simp [*]; done), by repeat (first | exact Drawn0.refl _ | apply Drawn0.step)⟩

def week_not.l0 : Nat → List (S45) → Int → List (S45) → Int → Int → Option ((List (S45)))
 | 0, _, _, _, _, _ => none
 | k + 1, x3, x4, x7, x8, x9 => if x9 < x8 then (if 0 ≤ x9 then (if x9 < (x7.length : Int) then (if x4 < ((rd_T45 x7 x9).f0) then (if x3.length < 8796093022208 then (week_not.l0 k (x3 ++ [(⟨x4, (rd_T45 x7 x9).f0⟩ : S45)]) ((rd_T45 x7 x9).f1) x7 x8 (wrap64 (x9 + 1))) else (none)) else (week_not.l0 k x3 ((rd_T45 x7 x9).f1) x7 x8 (wrap64 (x9 + 1)))) else (none)) else (none)) else (if x4 < 10080 then (if x3.length < 8796093022208 then (some (x3 ++ [(⟨x4, 10080⟩ : S45)])) else (none)) else (some x3))
def week_not.f (k : Nat) (l0 : List (S45)) : Option ((List (S45))) := week_not.l0 k ([] : List (S45)) 0 l0 (l0.length : Int) 0
set_option maxHeartbeats 8000000 in
set_option maxRecDepth 100000 in
theorem week_not.calls (k : Nat) (A0 : Option Addr) (c0 : Nat) (l0 : List (S45)) (r : List (S45)) (w : World) (hr0 : Kd.C k45 w A0 l0.length l0) (hc0 : l0.length ≤ c0) (h : week_not.f k l0 = some r) :
  Calls Tryd.prog 57 #[.slice A0 l0.length c0] w fun e w' => ∃ v0_ : Value, e = .returned (v0_) ∧ Kd.R k45 45 w' w.heap.size (fun _ => True) v0_ r ∧ Below w.heap.size w w' := by
 have hu45 := Tryd.underlying45
 have HR0 := Aside0.mk hr0
 have HC0 := Aside0.mk hc0
 clear hr0 hc0
 have HB := Aside0.mk (Below.refl w.heap.size w)
 have H : (week_not.l0 k ([] : List (S45)) 0 l0 (l0.length : Int) 0) = some r := h
 clear h
 have H' := Aside0.mk H
 clear H
 go_enter Tryd.func57, Tryd.ntmps57
 go_wp2
 go_loopg [3, 4, 9] k (fun kq v3 v4 v9 w' => ∃ (x3_1 : List (S45)) (x4_1 : Int) (x9_1 : Int), v4 = .int .i64 x4_1 ∧ v9 = .int .i64 x9_1 ∧ Aside0 (week_not.l0 kq x3_1 x4_1 l0 (l0.length : Int) x9_1 = some r) ∧ Aside0 (kq ≤ k) ∧ Aside0 (Kd.R k45 45 w' w.heap.size (fun _ => True) v3 x3_1) ∧ Aside0 (Below w.heap.size w w'))
 case atStart => exact ⟨(([] : List (S45))), (0), (0), (by first | rfl | (simp; done) | (simp [*]; done)), (by first | rfl | (simp; done) | (simp [*]; done)), H', ⟨Nat.le_refl _⟩, ⟨by first | exact Kd.R_nil _ _ _ _ _ | exact Kd.N_nil _ _ _ _ _ | exact Kd.V_nil _ _ _ _ _ | exact Kd.Q_nil _ _ _ _ _ | exact Kd.S_nil _ _ _ _ _⟩, ⟨by repeat (first | (with_reducible first | exact HB.out | apply below_alloc | apply pw_below_drewN | apply below_drew1) | exact HB.out)⟩⟩
 case round =>
  clear H'
  obtain ⟨x3_1, x4_1, x9_1, rfl, rfl, HA, HK1, HO_3, HB⟩ := hrel
  cases gk with
  | zero => exact absurd HA.out (by simp [week_not.l0])
  | succ k1 =>
   have H := HA.out
   clear HA
   simp only [week_not.l0] at H
   by_cases c2 : x9_1 < (l0.length : Int)
   ·rw [if_pos c2] at H
    have c2b0 : decide (x9_1 < (l0.length : Int)) = true := decide_eq_true c2
    clear c2
    by_cases c3 : 0 ≤ x9_1
    ·rw [if_pos c3] at H
     have c3b0 : decide (0 ≤ x9_1) = true := decide_eq_true c3
     clear c3
     by_cases c4 : x9_1 < (l0.length : Int)
     ·rw [if_pos c4] at H
      have c4b0 : decide (x9_1 < (l0.length : Int)) = true := decide_eq_true c4
      clear c4
      by_cases c5 : x4_1 < ((rd_T45 l0 x9_1).f0)
      ·rw [if_pos c5] at H
       have c5b0 : decide (x4_1 < ((rd_T45 l0 x9_1).f0)) = true := decide_eq_true c5
       clear c5
       by_cases c6 : x3_1.length < 8796093022208
       ·rw [if_pos c6] at H
        have LMc6 := Aside0.mk c6
        clear c6
        obtain ⟨y293, hy293⟩ : ∃ y_ : List (S45), y_ = (x3_1 ++ [(⟨x4_1, (rd_T45 l0 x9_1).f0⟩ : S45)]) := ⟨_, rfl⟩
        replace H : (week_not.l0 k1 y293 ((rd_T45 l0 x9_1).f1) l0 (l0.length : Int) (wrap64 (x9_1 + 1))) = some r := by first | (rw [hy293]; with_reducible exact H) | (have H2_ := (Option.bind_some _ _).symm.trans H; rw [hy293]; with_reducible exact H2_) | (have H2_ := (Option.bind_some _ _).symm.trans H; with_reducible exact H2_) | with_reducible exact H | (rw [hy293]; exact H) | exact H
        have Ny293 := Aside0.mk hy293
        clear hy293
        have H' := Aside0.mk H
        clear H
        have p291 : 0 ≤ (x9_1 : Int) := of_decide_eq_true (by first | (with_reducible assumption) | assumption)
        have q291 : x9_1 < (l0.length : Int) := of_decide_eq_true (by first | (with_reducible assumption) | assumption)
        obtain ⟨ad291, e291, hx291_0, hx291_1⟩ := at_T45 HR0.out x9_1 p291 q291
        cases e291
        replace hx291_0 := (HB.out.cell (World.block_lt_of_cell? w _ hx291_0)).trans hx291_0
        replace hx291_1 := (HB.out.cell (World.block_lt_of_cell? w _ hx291_1)).trans hx291_1
        replace p291 := eq_true p291
        replace q291 := eq_true q291
        go_wp2_with (first | ((with_reducible refine gate_dst (N := 6) rfl ?_); refine box_event ?hg (N := 6) ?hd (cs := #[.int .i64 0, .int .i64 0]) (t := 45) ?hr ?_; (case hd => rfl); (case hg => rfl); (case hr => first | (go_simp; done) | (go_simp; rfl)); intro gb292 hg w7 hbox hb; have n0_ := Aside0.mk (Kd.R_below (Kd.R_elderB (by (with_reducible repeat (first | apply Kd.R_alloc | apply Kd.R_drewN | apply Kd.R_drew)); exact HO_3.out) gb292 (Nat.le_of_eq hg.symm)) hb); have n1_ := Aside0.mk (below_step (by repeat (first | (with_reducible first | exact HB.out | apply below_alloc | apply pw_below_drewN | apply below_drew1) | exact HB.out)) hb); have n2_ := Aside0.mk (hbox); have n3_ := Aside0.mk ((by rw [hg]; exact (below_size (by repeat (first | (with_reducible first | exact HB.out | apply below_alloc | apply pw_below_drewN | apply below_drew1) | exact HB.out))) : w.heap.size ≤ gb292)); have n4_ := Aside0.mk ((by rw [hg]; exact (below_size (by repeat (first | (with_reducible first | exact HB.out | apply below_alloc | apply pw_below_drewN | apply below_drew1) | exact HB.out))) : w.heap.size ≤ gb292)); clear HO_3; clear HB; have HO_3 := n0_; have HB := n1_; have BK292 := n2_; have GW292 := n3_; have GE292 := n4_; clear n0_ n1_ n2_ n3_ n4_; clear hb hbox hg; have hcz8_0 : w7.cell? ⟨gb292, 0, none⟩ = some (.int .i64 0) := (blk_cell BK292.out 0).trans rfl; have hcz8_1 : w7.cell? ⟨gb292, 1, none⟩ = some (.int .i64 0) := (blk_cell BK292.out 1).trans rfl; have hfz8_0 := blk_frozen BK292.out 0; have hfz8_1 := blk_frozen BK292.out 1) | ((with_reducible refine gate_builtin (b := .append) (xs := #[.tmp 17, .tmp 22]) rfl ?_); at_builtin; refine Kd.R_append k45 (w0 := w) w.heap.size rfl (.tmp 17) (.tmp 22) 26 45 (.agg #[(.int .i64 0), (.int .i64 0)]) 16 rfl Tryd.underlying26 info45 rfl (by decide) (by omega) u3 x3_1 (⟨x4_1, (rd_T45 l0 x9_1).f0⟩ : S45) [.int .i64 x4_1, .int .i64 ((rd_T45 l0 x9_1).f0)] (fun k_ => k_ ≠ gb292) (fun _ => False) rfl (by first | (go_simp; done) | (go_simp; rfl)) ?aP (fun _ hk => hk.elim) ?aF ?aO ?aB ?aS ?aL ?_; (case aP => exact k45_mkM _ _ _ (⟨x4_1, (rd_T45 l0 x9_1).f0⟩ : S45)); (case aB => exact (by repeat (first | (with_reducible first | exact HB.out | apply below_alloc | apply pw_below_drewN | apply below_drew1 | refine below_set ?_ GE292.out) | exact HB.out))); (case aF => exact (fun k_ hk => Kd.freshB (g := gb292) (o := .cells #[.int .i64 ((rd_T45 l0 x9_1).f0), .int .i64 ((rd_T45 l0 x9_1).f1)] 45 (0, 0)) (by (with_reducible repeat (first | refine blk_drewN ?_ _ | refine blk_drew ?_ | refine blk_alloc ?_ _)); refine blk_put (cs := #[.int .i64 ((rd_T45 l0 x9_1).f0), .int .i64 0]) ?_ 1 _ rfl; (with_reducible repeat (first | refine blk_drewN ?_ _ | refine blk_drew ?_ | refine blk_alloc ?_ _)); refine blk_put (cs := #[.int .i64 0, .int .i64 0]) ?_ 0 _ rfl; (with_reducible repeat (first | refine blk_drewN ?_ _ | refine blk_drew ?_ | refine blk_alloc ?_ _)); exact BK292.out) k_ hk)); (case aO => exact (by (with_reducible repeat (first | apply Kd.R_alloc | apply Kd.R_drewN | apply Kd.R_drew)); exact Kd.R_mono (Kd.R_far (p := ⟨gb292, 1, none⟩) (Kd.R_far (p := ⟨gb292, 0, none⟩) (Kd.R_mono HO_3.out (fun k_ hk => (⟨hk, hk.2⟩ : _ ∧ k_ ≠ gb292))) (fun _ hk => hk.2) (.int .i64 ((rd_T45 l0 x9_1).f0))) (fun _ hk => hk.2) (.int .i64 ((rd_T45 l0 x9_1).f1))) (fun _ hk => hk.1.2))); (case aS => exact (below_size (by repeat (first | (with_reducible first | exact HB.out | apply below_alloc | apply pw_below_drewN | apply below_drew1 | refine below_set ?_ GE292.out) | exact HB.out)))); (case aL => have := LMc6.out; omega); intro v294 w9 ho hb hg hat; rw [← Ny293.out] at ho; have n0_ := Aside0.mk (blk_grown (g := gb292) (o := .cells #[.int .i64 ((rd_T45 l0 x9_1).f0), .int .i64 ((rd_T45 l0 x9_1).f1)] 45 (0, 0)) (by (with_reducible repeat (first | refine blk_drewN ?_ _ | refine blk_drew ?_ | refine blk_alloc ?_ _)); refine blk_put (cs := #[.int .i64 ((rd_T45 l0 x9_1).f0), .int .i64 0]) ?_ 1 _ rfl; (with_reducible repeat (first | refine blk_drewN ?_ _ | refine blk_drew ?_ | refine blk_alloc ?_ _)); refine blk_put (cs := #[.int .i64 0, .int .i64 0]) ?_ 0 _ rfl; (with_reducible repeat (first | refine blk_drewN ?_ _ | refine blk_drew ?_ | refine blk_alloc ?_ _)); exact BK292.out) hg (Kd.R_away HO_3.out (fun _ hk => hk.2))); have n1_ := Aside0.mk (hb); have n2_ := Aside0.mk (ho); clear BK292; clear HB; clear HO_3; have BK292 := n0_; have HB := n1_; have HO295 := n2_; clear n0_ n1_ n2_; clear ho hb hg hat; have hcz10_0 : w9.cell? ⟨gb292, 0, none⟩ = some (.int .i64 ((rd_T45 l0 x9_1).f0)) := (blk_cell BK292.out 0).trans rfl; have hcz10_1 : w9.cell? ⟨gb292, 1, none⟩ = some (.int .i64 ((rd_T45 l0 x9_1).f1)) := (blk_cell BK292.out 1).trans rfl; have hfz10_0 := blk_frozen BK292.out 0; have hfz10_1 := blk_frozen BK292.out 1))
        go_roundg k1
        case measure => have := HK1.out; omega
        case rel => exact ⟨(y293), ((rd_T45 l0 x9_1).f1), (wrap64 (x9_1 + 1)), (by first | rfl | (simp; done) | (simp [*]; done)), (by first | rfl | (simp; done) | (simp [*]; done)), H', ⟨by have := HK1.out; omega⟩, ⟨by (with_reducible repeat (first | apply Kd.R_alloc | apply Kd.R_drewN | apply Kd.R_drew)); exact Kd.R_mono HO295.out (fun _ hk => trivial)⟩, ⟨by repeat (first | (with_reducible first | exact HB.out | apply below_alloc | apply pw_below_drewN | apply below_drew1 | refine below_set ?_ GE292.out) | exact HB.out)⟩⟩
       ·rw [if_neg c6] at H
        exact absurd H (by simp)
      ·rw [if_neg c5] at H
       have c5b0 : decide (x4_1 < ((rd_T45 l0 x9_1).f0)) = false := decide_eq_false c5
       clear c5
       have H' := Aside0.mk H
       clear H
       have p291 : 0 ≤ (x9_1 : Int) := of_decide_eq_true (by first | (with_reducible assumption) | assumption)
       have q291 : x9_1 < (l0.length : Int) := of_decide_eq_true (by first | (with_reducible assumption) | assumption)
       obtain ⟨ad291, e291, hx291_0, hx291_1⟩ := at_T45 HR0.out x9_1 p291 q291
       cases e291
       replace hx291_0 := (HB.out.cell (World.block_lt_of_cell? w _ hx291_0)).trans hx291_0
       replace hx291_1 := (HB.out.cell (World.block_lt_of_cell? w _ hx291_1)).trans hx291_1
       replace p291 := eq_true p291
       replace q291 := eq_true q291
       go_wp2_with (first | ((with_reducible refine gate_dst (N := 6) rfl ?_); refine box_event ?hg (N := 6) ?hd (cs := #[.int .i64 0, .int .i64 0]) (t := 45) ?hr ?_; (case hd => rfl); (case hg => rfl); (case hr => first | (go_simp; done) | (go_simp; rfl)); intro gb292 hg w11 hbox hb; have n0_ := Aside0.mk (Kd.R_below (Kd.R_elderB (by (with_reducible repeat (first | apply Kd.R_alloc | apply Kd.R_drewN | apply Kd.R_drew)); exact HO_3.out) gb292 (Nat.le_of_eq hg.symm)) hb); have n1_ := Aside0.mk (below_step (by repeat (first | (with_reducible first | exact HB.out | apply below_alloc | apply pw_below_drewN | apply below_drew1) | exact HB.out)) hb); have n2_ := Aside0.mk (hbox); have n3_ := Aside0.mk ((by rw [hg]; exact (below_size (by repeat (first | (with_reducible first | exact HB.out | apply below_alloc | apply pw_below_drewN | apply below_drew1) | exact HB.out))) : w.heap.size ≤ gb292)); have n4_ := Aside0.mk ((by rw [hg]; exact (below_size (by repeat (first | (with_reducible first | exact HB.out | apply below_alloc | apply pw_below_drewN | apply below_drew1) | exact HB.out))) : w.heap.size ≤ gb292)); clear HO_3; clear HB; have HO_3 := n0_; have HB := n1_; have BK292 := n2_; have GW292 := n3_; have GE292 := n4_; clear n0_ n1_ n2_ n3_ n4_; clear hb hbox hg; have hcz12_0 : w11.cell? ⟨gb292, 0, none⟩ = some (.int .i64 0) := (blk_cell BK292.out 0).trans rfl; have hcz12_1 : w11.cell? ⟨gb292, 1, none⟩ = some (.int .i64 0) := (blk_cell BK292.out 1).trans rfl; have hfz12_0 := blk_frozen BK292.out 0; have hfz12_1 := blk_frozen BK292.out 1))
       go_roundg k1
       case measure => have := HK1.out; omega
       case rel => exact ⟨(x3_1), ((rd_T45 l0 x9_1).f1), (wrap64 (x9_1 + 1)), (by first | rfl | (simp; done) | (simp [*]; done)), (by first | rfl | (simp; done) | (simp [*]; done)), H', ⟨by have := HK1.out; omega⟩, ⟨by (with_reducible repeat (first | apply Kd.R_alloc | apply Kd.R_drewN | apply Kd.R_drew)); exact Kd.R_mono (Kd.R_far (p := ⟨gb292, 1, none⟩) (Kd.R_far (p := ⟨gb292, 0, none⟩) (Kd.R_mono HO_3.out (fun k_ hk => (⟨hk, hk.2⟩ : _ ∧ k_ ≠ gb292))) (fun _ hk => hk.2) (.int .i64 ((rd_T45 l0 x9_1).f0))) (fun _ hk => hk.2) (.int .i64 ((rd_T45 l0 x9_1).f1))) (fun _ hk => trivial)⟩, ⟨by repeat (first | (with_reducible first | exact HB.out | apply below_alloc | apply pw_below_drewN | apply below_drew1 | refine below_set ?_ GE292.out) | exact HB.out)⟩⟩
     ·rw [if_neg c4] at H
      exact absurd H (by simp)
    ·rw [if_neg c3] at H
     exact absurd H (by simp)
   ·rw [if_neg c2] at H
    have c2b0 : decide (x9_1 < (l0.length : Int)) = false := decide_eq_false c2
    clear c2
    by_cases c13 : x4_1 < 10080
    ·rw [if_pos c13] at H
     have c13b0 : decide (x4_1 < 10080) = true := decide_eq_true c13
     clear c13
     by_cases c14 : x3_1.length < 8796093022208
     ·rw [if_pos c14] at H
      have LMc14 := Aside0.mk c14
      clear c14
      obtain ⟨y296, hy296⟩ : ∃ y_ : List (S45), y_ = (x3_1 ++ [(⟨x4_1, 10080⟩ : S45)]) := ⟨_, rfl⟩
      replace H : (some y296) = some r := by first | (rw [hy296]; with_reducible exact H) | (have H2_ := (Option.bind_some _ _).symm.trans H; rw [hy296]; with_reducible exact H2_) | (have H2_ := (Option.bind_some _ _).symm.trans H; with_reducible exact H2_) | with_reducible exact H | (rw [hy296]; exact H) | exact H
      have Ny296 := Aside0.mk hy296
      clear hy296
      obtain rfl := Option.some.inj H
      go_wp2_with (first | ((with_reducible refine gate_builtin (b := .append) (xs := #[.tmp 29, .tmp 32]) rfl ?_); at_builtin; refine Kd.R_append k45 (w0 := w) w.heap.size rfl (.tmp 29) (.tmp 32) 26 45 (.agg #[(.int .i64 0), (.int .i64 0)]) 16 rfl Tryd.underlying26 info45 rfl (by decide) (by omega) u3 x3_1 (⟨x4_1, 10080⟩ : S45) [.int .i64 x4_1, .int .i64 10080] (fun _ => True) (fun _ => False) rfl rfl ?aP (fun _ hk => hk.elim) ?aF ?aO ?aB ?aS ?aL ?_; (case aP => exact k45_mkM _ _ _ (⟨x4_1, 10080⟩ : S45)); (case aB => exact (by repeat (first | (with_reducible first | exact HB.out | apply below_alloc | apply pw_below_drewN | apply below_drew1) | exact HB.out))); (case aF => exact (fun _ _ => trivial)); (case aO => exact (by (with_reducible repeat (first | apply Kd.R_alloc | apply Kd.R_drewN | apply Kd.R_drew)); exact HO_3.out)); (case aS => exact (below_size (by repeat (first | (with_reducible first | exact HB.out | apply below_alloc | apply pw_below_drewN | apply below_drew1) | exact HB.out)))); (case aL => have := LMc14.out; omega); intro v297 w15 ho hb hg hat; rw [← Ny296.out] at ho; have n0_ := Aside0.mk (hb); have n1_ := Aside0.mk (ho); clear HB; clear HO_3; have HB := n0_; have HO298 := n1_; clear n0_ n1_; clear ho hb hg hat))
      go_ret
      exact ⟨_, by first | rfl | (simp [errW_none, errW_some] <;> rfl) | (simp [*, errW_none, errW_some] <;> rfl), by (with_reducible repeat (first | apply Kd.R_alloc | apply Kd.R_drewN | apply Kd.R_drew)); exact HO298.out, by repeat (first | (with_reducible first | exact HB.out | apply below_alloc | apply pw_below_drewN | apply below_drew1) | exact HB.out)⟩
     ·rw [if_neg c14] at H
      exact absurd H (by simp)
    ·rw [if_neg c13] at H
     have c13b0 : decide (x4_1 < 10080) = false := decide_eq_false c13
     clear c13
     obtain rfl := Option.some.inj H
     go_wp2
     go_ret
     exact ⟨_, by first | rfl | (simp [errW_none, errW_some] <;> rfl) | (simp [*, errW_none, errW_some] <;> rfl), by (with_reducible repeat (first | apply Kd.R_alloc | apply Kd.R_drewN | apply Kd.R_drew)); exact HO_3.out, by repeat (first | (with_reducible first | exact HB.out | apply below_alloc | apply pw_below_drewN | apply below_drew1) | exact HB.out)⟩
def week_Next.p (n : Int) (x : S45) : Bool := decide (n < x.f1)
def week_Next.enc (x : S45) : List Value := [.int .i64 x.f0, .int .i64 x.f1]
def week_Next.ix (n : Int) (l : List (S45)) : Int := @Lib.idxBy (S45) (fun _ y => week_Next.p n y) l z45
def week_Next.end_ (l : List (S45)) (n : Int) : Option (Int × Int) :=
 if l.length = 0 then some (0, 3) else if week_Next.ix n l < 0 then some (wrap64 (wrap64 ((rd_T45 l 0).f0 + 10080) - n), 0) else if week_Next.ix n l < (l.length : Int) then some (mx 0 (wrap64 ((rd_T45 l (week_Next.ix n l)).f0 - n)), 0) else none
def week_Next.f (k : Nat) (l0 : List (S45)) (a1 : Int) (a2 : Bool) : Option (Int × Int) :=
 (week_minute.f k l0 a1).bind fun why => if why = 0 then (if a2 = true then week_Next.end_ l0 a1 else (week_not.f k l0).bind fun l => week_Next.end_ l a1) else some (0, why)
set_option maxHeartbeats 400000 in
set_option maxRecDepth 100000 in
theorem week_Next.one (x : S45) (n : Int) (g : Nat) (W : World) (hg : g < W.heap.size) (hc : W.cell? ⟨g, 0, none⟩ = some (.int .i64 n)) :
  Calls Tryd.prog 59 #[.agg #[.int .i64 x.f0, .int .i64 x.f1], .pointer (some ⟨g, 0, none⟩)] W fun e w' => e = .returned (.bool (week_Next.p n x)) ∧ Below W.heap.size W w' := by
 have hb := (Below.refl W.heap.size W)
 have hne : g ≠ W.heap.size := by omega
 have hu := Tryd.underlying45
 unfold week_Next.p
 go_enter Tryd.func59, Tryd.ntmps59
 go_wp2
 all_goals (go_ret; exact ⟨by first | rfl | (simp_all; done) | (simp_all; omega), hb.alloc hb.size _⟩)
theorem week_Next.index (A : Option Addr) (c : Nat) (l : List (S45)) (n : Int) (g : Nat) (w : World) (hC : Kd.C k45 w A l.length l) (hg : g < w.heap.size) (hc : w.cell? ⟨g, 0, none⟩ = some (.int .i64 n)) :
  Calls Tryd.prog 58 #[.slice A l.length c, .func (.func 59) #[] #[.pointer (some ⟨g, 0, none⟩)]] w fun e w' => e = .returned (.int .i64 (week_Next.ix n l)) ∧ Below w.heap.size w w' := by
 letI : Inhabited S45 := ⟨z45⟩
 have eg : ∀ args w, (callFunc 59 args).run Tryd.prog w = .ok (.enter 59 args) w := enters_of Tryd.func59 (by kernel_rfl) rfl
 exact gi_index (d := k45) (enc := week_Next.enc) Tryd.lay_idx Tryd.isAgg45 Tryd.sizeOf45 (fun _ => rfl) (fun h => k45_open h) (by decide) (week_Next.p n) 59 #[.pointer (some ⟨g, 0, none⟩)] eg A c l w hC
  (fun W x hbw => (week_Next.one x n g W (Nat.lt_of_lt_of_le hg hbw.size) ((hbw.cell (p := ⟨g, 0, none⟩) hg).trans hc)).mono (fun e w' ⟨he, hb'⟩ => ⟨he, below_then hbw hbw.size hb'⟩))
set_option maxHeartbeats 2000000 in
set_option maxRecDepth 100000 in
theorem week_Next.calls (k : Nat) (A0 : Option Addr) (c0 : Nat) (l0 : List (S45)) (a1 : Int) (a2 : Bool) (r1 : Int) (r2 : Int) (w : World) (hr0 : Kd.C k45 w A0 l0.length l0) (hc0 : l0.length ≤ c0) (h : week_Next.f k l0 a1 a2 = some (r1, r2)) :
  Calls Tryd.prog 39 #[.slice A0 l0.length c0, .int .i64 a1, .bool a2] w fun e w' => e = .returned (.tuple #[.int .i64 r1, .int .i64 r2]) ∧ Below w.heap.size w w' := by
 have hmf : ∀ (fn : Fn) (first cap : Array Value) (w : World), (Instr.makeFunc fn first cap).run Tryd.prog w = .ok (.func fn first cap) w := fun _ _ _ _ => rfl
 have hu := Tryd.underlying45
 unfold week_Next.f at h
 obtain ⟨why, hm, h⟩ := Option.bind_eq_some_iff.mp h
 have HM := Lib.hid hm
 have HC := Lib.hid hc0
 clear hm hc0
 obtain ⟨g, hg⟩ : ∃ g, g = w.heap.size := ⟨_, rfl⟩
 obtain ⟨W0, hW0⟩ : ∃ W0, W0 = w.alloc (.cells #[.int .i64 a1] 3) := ⟨_, rfl⟩
 have hcW : W0.cell? ⟨g, 0, none⟩ = some (.int .i64 a1) := by rw [hW0, hg]; simp
 have hgW : g < W0.heap.size := by rw [hW0, hg]; simp
 have HB0 := Lib.hid (show Below w.heap.size w W0 by rw [hW0]; exact below_alloc (Below.refl _ _) _)
 have HR0 := Lib.hid (Kd.C_below hr0 HB0.out)
 have HG := Lib.hid hg
 have HW := Lib.hid hW0
 clear hr0 hg hW0
 go_enter Tryd.func39, Tryd.ntmps39
 go_wp2_with fail
 rw [← HW.out, ← HG.out]
 clear HW HG
 by_cases c1 : why = 0
 rotate_left
 ·rw [if_neg c1] at h
  simp only [Option.some.injEq, Prod.mk.injEq] at h
  obtain ⟨rfl, rfl⟩ := h
  have c1b : (why != 0) = true := bne_iff_ne.mpr c1
  clear c1
  go_wp2_with (go_at_call 36; refine (week_minute.calls k A0 c0 l0 a1 _ _ HR0.out HC.out HM.out).mono ?_; rintro e w1 ⟨rfl, hb1⟩; have HB1 := Lib.hid hb1; clear hb1)
  go_ret2
  exact ⟨rfl, below_then HB0.out HB0.out.size HB1.out⟩
 subst c1
 rw [if_pos rfl] at h
 cases a2 with
 | true =>
  rw [if_pos rfl] at h
  unfold week_Next.end_ at h
  obtain ⟨i, hi⟩ : ∃ i, i = week_Next.ix a1 l0 := ⟨_, rfl⟩
  rw [← hi] at h
  have HI := Lib.hid hi
  clear hi
  by_cases c2 : l0.length = 0
  ·rw [if_pos c2] at h
   simp only [Option.some.injEq, Prod.mk.injEq] at h
   obtain ⟨rfl, rfl⟩ := h
   have c2a : ((l0.length : Int) == 0) = true := by simp [c2]
   have c2b : decide ((l0.length : Int) = 0) = true := by simp [c2]
   clear c2
   go_wp2_with (first | (go_at_call 36; refine (week_minute.calls k A0 c0 l0 a1 _ _ HR0.out HC.out HM.out).mono ?_; rintro e w1 ⟨rfl, hb1⟩; have HB1 := Lib.hid hb1; clear hb1) | (go_at_call 58; have HX := week_Next.index A0 c0 l0 a1 g w1 (Kd.C_below HR0.out HB1.out) (Nat.lt_of_lt_of_le hgW HB1.out.size) ((HB1.out.cell (p := ⟨g, 0, none⟩) hgW).trans hcW); rw [← HI.out] at HX; refine HX.mono ?_; clear HX; rintro e w3 ⟨rfl, hb3⟩; have HB3 := Lib.hid hb3; clear hb3))
   go_ret2
   exact ⟨rfl, below_then (below_then HB0.out HB0.out.size HB1.out) (below_then HB0.out HB0.out.size HB1.out).size HB3.out⟩
  ·rw [if_neg c2] at h
   have c2a : ((l0.length : Int) == 0) = false := beq_eq_false_iff_ne.mpr (by omega)
   have c2b : decide ((l0.length : Int) = 0) = false := decide_eq_false (by omega)
   have hpos : (0 : Int) < (l0.length : Int) := by omega
   have hpn : (0 < l0.length) = True := eq_true (by omega)
   clear c2
   by_cases c3 : i < 0
   ·rw [if_pos c3] at h
    simp only [Option.some.injEq, Prod.mk.injEq] at h
    obtain ⟨rfl, rfl⟩ := h
    have c3b : decide (i < 0) = true := decide_eq_true c3
    clear c3
    obtain ⟨ad, e0, hx0, hx1⟩ := at_T45 HR0.out (0 : Int) (by omega) hpos
    cases e0
    go_wp2_with (first | (go_at_call 36; refine (week_minute.calls k (some ad) c0 l0 a1 _ _ HR0.out HC.out HM.out).mono ?_; rintro e w1 ⟨rfl, hb1⟩; have HB1 := Lib.hid hb1; clear hb1) | (go_at_call 58; have HX := week_Next.index (some ad) c0 l0 a1 g w1 (Kd.C_below HR0.out HB1.out) (Nat.lt_of_lt_of_le hgW HB1.out.size) ((HB1.out.cell (p := ⟨g, 0, none⟩) hgW).trans hcW); rw [← HI.out] at HX; refine HX.mono ?_; clear HX; rintro e w3 ⟨rfl, hb3⟩; have HB3 := Lib.hid hb3; clear hb3; have hx3 := ((below_then HB1.out HB1.out.size HB3.out).cell (World.block_lt_of_cell? W0 _ hx0)).trans hx0; have hc3 := ((below_then HB1.out HB1.out.size HB3.out).cell (p := ⟨g, 0, none⟩) hgW).trans hcW))
    have hx4 : w3.cell? (ad.add 0) = _ := hx3
    have hx5 : w3.cell? ad = _ := hx3
    have p0 := eq_true hpos
    go_quiet (fail)
    go_wp2
    go_ret2
    exact ⟨by first | (simp only [i64_w]; rfl) | (unfold mx; rw [if_pos (by omega)]; simp only [i64_w]; rfl) | (unfold mx; rw [if_neg (by omega)]; simp only [i64_w]; rfl), pw_below_drewN (below_then (below_then HB0.out HB0.out.size HB1.out) (below_then HB0.out HB0.out.size HB1.out).size HB3.out) _⟩
   ·rw [if_neg c3] at h
    by_cases c4 : i < (l0.length : Int)
    ·rw [if_pos c4] at h
     simp only [Option.some.injEq, Prod.mk.injEq] at h
     obtain ⟨rfl, rfl⟩ := h
     have c3b : decide (i < 0) = false := decide_eq_false c3
     have h0 : (0 : Int) ≤ i := by omega
     clear c3
     obtain ⟨ad, e0, hx0, hx1⟩ := at_T45 HR0.out i h0 c4
     cases e0
     go_wp2_with (first | (go_at_call 36; refine (week_minute.calls k (some ad) c0 l0 a1 _ _ HR0.out HC.out HM.out).mono ?_; rintro e w1 ⟨rfl, hb1⟩; have HB1 := Lib.hid hb1; clear hb1) | (go_at_call 58; have HX := week_Next.index (some ad) c0 l0 a1 g w1 (Kd.C_below HR0.out HB1.out) (Nat.lt_of_lt_of_le hgW HB1.out.size) ((HB1.out.cell (p := ⟨g, 0, none⟩) hgW).trans hcW); rw [← HI.out] at HX; refine HX.mono ?_; clear HX; rintro e w3 ⟨rfl, hb3⟩; have HB3 := Lib.hid hb3; clear hb3; have hx3 := ((below_then HB1.out HB1.out.size HB3.out).cell (World.block_lt_of_cell? W0 _ hx0)).trans hx0; have hc3 := ((below_then HB1.out HB1.out.size HB3.out).cell (p := ⟨g, 0, none⟩) hgW).trans hcW))
     have p0 := eq_true h0
     have p1 := eq_true c4
     go_quiet (fail)
     go_wp2
     ·go_ret2
      exact ⟨by first | (simp only [i64_w]; rfl) | (unfold mx; rw [if_pos (by omega)]; simp only [i64_w]; rfl) | (unfold mx; rw [if_neg (by omega)]; simp only [i64_w]; rfl), pw_below_drewN (below_then (below_then HB0.out HB0.out.size HB1.out) (below_then HB0.out HB0.out.size HB1.out).size HB3.out) _⟩
     ·go_ret2
      exact ⟨by first | (simp only [i64_w]; rfl) | (unfold mx; rw [if_pos (by omega)]; simp only [i64_w]; rfl) | (unfold mx; rw [if_neg (by omega)]; simp only [i64_w]; rfl), pw_below_drewN (below_then (below_then HB0.out HB0.out.size HB1.out) (below_then HB0.out HB0.out.size HB1.out).size HB3.out) _⟩
    ·rw [if_neg c4] at h; cases h
 | false =>
  rw [if_neg (by decide)] at h
  obtain ⟨L, hn, h⟩ := Option.bind_eq_some_iff.mp h
  have HN := Lib.hid hn
  clear hn
  go_wp2_with (first | (go_at_call 36; refine (week_minute.calls k A0 c0 l0 a1 _ _ HR0.out HC.out HM.out).mono ?_; rintro e w1 ⟨rfl, hb1⟩; have HB1 := Lib.hid hb1; clear hb1) | (go_at_call 57; refine (week_not.calls k A0 c0 l0 L w1 (Kd.C_below HR0.out HB1.out) HC.out HN.out).mono ?_; rintro e w2 ⟨v2, rfl, ho2, hb2⟩; obtain ⟨A2, c2, rfl, hl2, hC2⟩ := Kd.R_reads ho2; have HB2 := Lib.hid (below_then HB1.out HB1.out.size hb2); have HR2 := Lib.hid hC2; have hcb := (HB2.out.cell (p := ⟨g, 0, none⟩) hgW).trans hcW; have hgb := Nat.lt_of_lt_of_le hgW HB2.out.size; clear ho2 hb2 hC2 hl2))
  unfold week_Next.end_ at h
  obtain ⟨i, hi⟩ : ∃ i, i = week_Next.ix a1 L := ⟨_, rfl⟩
  rw [← hi] at h
  have HI := Lib.hid hi
  clear hi
  by_cases c2 : L.length = 0
  ·rw [if_pos c2] at h
   simp only [Option.some.injEq, Prod.mk.injEq] at h
   obtain ⟨rfl, rfl⟩ := h
   have c2a : ((L.length : Int) == 0) = true := by simp [c2]
   have c2b : decide ((L.length : Int) = 0) = true := by simp [c2]
   clear c2
   go_wp2_with (go_at_call 58; have HX := week_Next.index A2 c2 L a1 g w2 HR2.out hgb hcb; rw [← HI.out] at HX; refine HX.mono ?_; clear HX; rintro e w3 ⟨rfl, hb3⟩; have HB3 := Lib.hid hb3; clear hb3)
   go_ret2
   exact ⟨rfl, below_then (below_then HB0.out HB0.out.size HB2.out) (below_then HB0.out HB0.out.size HB2.out).size HB3.out⟩
  ·rw [if_neg c2] at h
   have c2a : ((L.length : Int) == 0) = false := beq_eq_false_iff_ne.mpr (by omega)
   have c2b : decide ((L.length : Int) = 0) = false := decide_eq_false (by omega)
   have hpos : (0 : Int) < (L.length : Int) := by omega
   have hpn : (0 < L.length) = True := eq_true (by omega)
   clear c2
   by_cases c3 : i < 0
   ·rw [if_pos c3] at h
    simp only [Option.some.injEq, Prod.mk.injEq] at h
    obtain ⟨rfl, rfl⟩ := h
    have c3b : decide (i < 0) = true := decide_eq_true c3
    clear c3
    obtain ⟨ad, e0, hx0, hx1⟩ := at_T45 HR2.out (0 : Int) (by omega) hpos
    cases e0
    go_wp2_with (go_at_call 58; have HX := week_Next.index (some ad) c2 L a1 g w2 HR2.out hgb hcb; rw [← HI.out] at HX; refine HX.mono ?_; clear HX; rintro e w3 ⟨rfl, hb3⟩; have HB3 := Lib.hid hb3; clear hb3; have hx3 := (HB3.out.cell (World.block_lt_of_cell? w2 _ hx0)).trans hx0; have hc3 := (HB3.out.cell (p := ⟨g, 0, none⟩) hgb).trans hcb)
    have hx4 : w3.cell? (ad.add 0) = _ := hx3
    have hx5 : w3.cell? ad = _ := hx3
    have p0 := eq_true hpos
    go_quiet (fail)
    go_wp2
    go_ret2
    exact ⟨by first | (simp only [i64_w]; rfl) | (unfold mx; rw [if_pos (by omega)]; simp only [i64_w]; rfl) | (unfold mx; rw [if_neg (by omega)]; simp only [i64_w]; rfl), pw_below_drewN (below_then (below_then HB0.out HB0.out.size HB2.out) (below_then HB0.out HB0.out.size HB2.out).size HB3.out) _⟩
   ·rw [if_neg c3] at h
    by_cases c4 : i < (L.length : Int)
    ·rw [if_pos c4] at h
     simp only [Option.some.injEq, Prod.mk.injEq] at h
     obtain ⟨rfl, rfl⟩ := h
     have c3b : decide (i < 0) = false := decide_eq_false c3
     have h0 : (0 : Int) ≤ i := by omega
     clear c3
     obtain ⟨ad, e0, hx0, hx1⟩ := at_T45 HR2.out i h0 c4
     cases e0
     go_wp2_with (go_at_call 58; have HX := week_Next.index (some ad) c2 L a1 g w2 HR2.out hgb hcb; rw [← HI.out] at HX; refine HX.mono ?_; clear HX; rintro e w3 ⟨rfl, hb3⟩; have HB3 := Lib.hid hb3; clear hb3; have hx3 := (HB3.out.cell (World.block_lt_of_cell? w2 _ hx0)).trans hx0; have hc3 := (HB3.out.cell (p := ⟨g, 0, none⟩) hgb).trans hcb)
     have p0 := eq_true h0
     have p1 := eq_true c4
     go_quiet (fail)
     go_wp2
     ·go_ret2
      exact ⟨by first | (simp only [i64_w]; rfl) | (unfold mx; rw [if_pos (by omega)]; simp only [i64_w]; rfl) | (unfold mx; rw [if_neg (by omega)]; simp only [i64_w]; rfl), pw_below_drewN (below_then (below_then HB0.out HB0.out.size HB2.out) (below_then HB0.out HB0.out.size HB2.out).size HB3.out) _⟩
     ·go_ret2
      exact ⟨by first | (simp only [i64_w]; rfl) | (unfold mx; rw [if_pos (by omega)]; simp only [i64_w]; rfl) | (unfold mx; rw [if_neg (by omega)]; simp only [i64_w]; rfl), pw_below_drewN (below_then (below_then HB0.out HB0.out.size HB2.out) (below_then HB0.out HB0.out.size HB2.out).size HB3.out) _⟩
    ·rw [if_neg c4] at h; cases h


end Go.Proofs.YtbimjpafgiogcaaDoor.XQ
