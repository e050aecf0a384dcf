-- by px.py, a program of this session, over the kit's printer: functions given by hand stand beside printed ones. Lean checks all of it.
import Derived.Test.YtlpbolkbdcgmnaaXD0
import Derived.Test.YtlpbolkbdcgmnaaXD2
import Derived.Test.YtlpbolkbdcgmnaaXD3
import Derived.Test.YtlpbolkbdcgmnaaXD4
import Derived.Test.YtlpbolkbdcgmnaaXD5
import Derived.Test.YtlpbolkbdcgmnaaXD6
import Derived.Test.YtlpbolkbdcgmnaaGSort
import Derived.Test.YtlpbolkbdcgmnaaGLayT
import Derived.Test.YtlpbolkbdcgmnaaQHeapS
import Derived.BigRegion
import Derived.Laws.EntriesVeiled
import Derived.BigRegion
import Derived.Laws.EntriesVeiled
namespace Go.Proofs.Ytlpbolkbdcgmnaa.XD
open Go.RowKit Go.Proofs.YtlpbolkbdcgmnaaW.PrintWords Go.Proofs.YtlpbolkbdcgmnaaW.PrintLast Go.Proofs.YtlpbolkbdcgmnaaW.PrintMore
attribute [local go_sem] max2_int min2_int max_two min_two max_three min_three max_four min_four   -- for this text's walks alone
set_option linter.unusedVariables false
set_option linter.unusedSimpArgs false

/-! ### due_Count: function 31 -/
def due_Count.l0 : Nat → Int → Int → List (S29) → Int → Int → Option (Int × Int)
 | 0, _, _, _, _, _ => none
 | k + 1, x1, x7, x15, x16, x17 => if x17 < x16 then (if 0 ≤ x17 then (if x17 < (x15.length : Int) then (if ((rd_T29 x15 x17).f0) ≤ x1 then (due_Count.l0 k x1 (wrap64 (x7 + 1)) x15 x16 (wrap64 (x17 + 1))) else (due_Count.l0 k x1 x7 x15 x16 (wrap64 (x17 + 1)))) else (none)) else (none)) else (some (x7, 0))
def due_Count.f (k : Nat) (l0 : List (S29)) (a1 : Int) : Option (Int × Int) := (heap_Check.f k l0).bind fun t145 => (if t145 = 0 then (due_Count.l0 k a1 0 l0 (l0.length : Int) 0) else (some (0, t145)))
theorem due_Count.mono_l : ∀ k, (∀ y0 y1 y2 y3 y4, LeO (due_Count.l0 k y0 y1 y2 y3 y4) (due_Count.l0 (k + 1) y0 y1 y2 y3 y4))
 | 0 => fun _ _ _ _ _ r h => by simp [due_Count.l0] at h
 | k + 1 => by
  have ih0 := due_Count.mono_l k
  ·intro y0 y1 y2 y3 y4
   unfold due_Count.l0
   repeat' first
   | (with_reducible exact ih0 _ _ _ _ _)
   | (with_reducible exact heap_Check.mono _ _)
   | (with_reducible exact LeO.refl _)
   | (with_reducible exact LeO.none _)
   | (with_reducible refine LeO.ite ?_ ?_)
   | (with_reducible refine LeO.bind ?_ (fun _ => ?_))
   | exact ih0 _ _ _ _ _
   | exact heap_Check.mono _ _
   | exact LeO.none _
   | refine LeO.ite ?_ ?_
   | refine LeO.bind ?_ (fun _ => ?_)
theorem due_Count.mono : ∀ a0 a1 k, LeO (due_Count.f k a0 a1) (due_Count.f (k + 1) a0 a1) := by
 intro a0 a1 k
 have ih0 := due_Count.mono_l k
 unfold due_Count.f
 repeat' first
   | (with_reducible exact ih0 _ _ _ _ _)
   | (with_reducible exact heap_Check.mono _ _)
   | (with_reducible exact LeO.refl _)
   | (with_reducible exact LeO.none _)
   | (with_reducible refine LeO.ite ?_ ?_)
   | (with_reducible refine LeO.bind ?_ (fun _ => ?_))
   | exact ih0 _ _ _ _ _
   | exact heap_Check.mono _ _
   | exact LeO.none _
   | refine LeO.ite ?_ ?_
   | refine LeO.bind ?_ (fun _ => ?_)
set_option maxHeartbeats 8000000 in
set_option maxRecDepth 100000 in
theorem due_Count.calls (k : Nat) (A0 : Option Addr) (c0 : Nat) (l0 : List (S29)) (a1 : Int) (r1 : Int) (r2 : Int) (w : World) (hr0 : Kd.C k29 w A0 l0.length l0) (hc0 : l0.length ≤ c0) (h : due_Count.f k l0 a1 = some (r1, r2)) :
  Calls Try.prog 31 #[.slice A0 l0.length c0, .int .i64 a1] w fun e w' => e = .returned (.tuple #[.int .i64 r1, .int .i64 r2]) ∧ Below w.heap.size w w' := by
 have hu29 := Try.underlying29
 have HR0 := Aside0.mk hr0
 have HC0 := Aside0.mk hc0
 clear hr0 hc0
 have HB := Aside0.mk (Below.refl w.heap.size w)
 have H : ((heap_Check.f k l0).bind fun t145 => (if t145 = 0 then (due_Count.l0 k a1 0 l0 (l0.length : Int) 0) else (some (0, t145)))) = some (r1, r2) := h
 clear h
 replace H := Option.bind_eq_some_iff.mp H
 obtain ⟨t145, A30, H⟩ := H
 replace H : (if t145 = 0 then (due_Count.l0 k a1 0 l0 (l0.length : Int) 0) else (some (0, t145))) = some (r1, r2) := H
 have A3 := Aside0.mk A30
 clear A30
 by_cases c4 : t145 = 0
 ·rw [if_pos c4] at H
  have c4b0 : (t145 == 0) = true := beq_iff_eq.mpr c4
  have c4b1 : (t145 != 0) = false := bne_eq_false_iff_eq.mpr c4
  clear c4
  have H' := Aside0.mk H
  clear H
  go_enter Try.func31, Try.ntmps31
  go_wp2_with (first | ((with_reducible refine gate_callee (f := 25) rfl ?_); refine goesL_ (some 11) rfl rfl Try.func25 (by kernel_rfl) rfl #[.slice A0 l0.length c0] rfl (by (try simp only [List.map_toArray, List.map_cons, List.map_nil]); first | done | rfl | (simp only [List.length_drop, List.length_take]; rfl)) ?_; (with_reducible refine (heap_Check.calls k _ _ l0 t145 _ ?side1 ?side2 A3.out).mono ?_); (case side1 => repeat (first | exact HR0.out | (with_reducible refine Kd.C_alloc ?_ _) | (with_reducible refine Kd.C_drewN ?_ _) | (with_reducible refine Kd.C_drew ?_))); (case side2 => exact HC0.out); rintro e w5 ⟨rfl, hb⟩; refine ⟨_, rfl, ?_⟩; have n0_ := Aside0.mk (below_step (by repeat (first | (with_reducible first | exact HB.out | apply below_alloc | apply pw_below_drewN | apply below_drew1) | exact HB.out)) hb); clear HB; have HB := n0_; clear n0_; (try clear hb); (try clear hb2); (try clear hk); (try clear hi)))
  go_loopg [7, 17] k (fun kq v7 v17 w' => ∃ (x7_1 : Int) (x17_1 : Int), v7 = .int .i64 x7_1 ∧ v17 = .int .i64 x17_1 ∧ Aside0 (due_Count.l0 kq a1 x7_1 l0 (l0.length : Int) x17_1 = some (r1, r2)) ∧ Aside0 (kq ≤ k) ∧ Aside0 (Below w.heap.size w w'))
  case atStart => exact ⟨(0), (0), (by first | rfl | (simp; done) | (simp [*]; done)), (by first | rfl | (simp; done) | (simp [*]; done)), H', ⟨Nat.le_refl _⟩, ⟨by repeat (first | (with_reducible first | exact HB.out | apply below_alloc | apply pw_below_drewN | apply below_drew1) | exact HB.out)⟩⟩
  case round =>
   clear H'
   try clear c2
   try clear p2
   try clear c3
   try clear c4
   try clear c4b0
   try clear c4b1
   obtain ⟨x7_1, x17_1, rfl, rfl, HA, HK1, HB⟩ := hrel
   cases gk with
   | zero => exact absurd HA.out (by simp [due_Count.l0])
   | succ k1 =>
    have H := HA.out
    clear HA
    simp only [due_Count.l0] at H
    by_cases c6 : x17_1 < (l0.length : Int)
    ·rw [if_pos c6] at H
     have c6b0 : decide (x17_1 < (l0.length : Int)) = true := decide_eq_true c6
     clear c6
     by_cases c7 : 0 ≤ x17_1
     ·rw [if_pos c7] at H
      have c7b0 : decide (0 ≤ x17_1) = true := decide_eq_true c7
      clear c7
      by_cases c8 : x17_1 < (l0.length : Int)
      ·rw [if_pos c8] at H
       have c8b0 : decide (x17_1 < (l0.length : Int)) = true := decide_eq_true c8
       clear c8
       by_cases c9 : ((rd_T29 l0 x17_1).f0) ≤ a1
       ·rw [if_pos c9] at H
        have c9b0 : decide (((rd_T29 l0 x17_1).f0) ≤ a1) = true := decide_eq_true c9
        clear c9
        have H' := Aside0.mk H
        clear H
        have p146 : 0 ≤ (x17_1 : Int) := of_decide_eq_true (by first | (with_reducible assumption) | assumption)
        have q146 : x17_1 < (l0.length : Int) := of_decide_eq_true (by first | (with_reducible assumption) | assumption)
        obtain ⟨ad146, e146, hx146_0, hx146_1, hx146_2, hx146_3⟩ := at_T29 HR0.out x17_1 p146 q146
        cases e146
        replace hx146_0 := (HB.out.cell (World.block_lt_of_cell? w _ hx146_0)).trans hx146_0
        replace hx146_1 := (HB.out.cell (World.block_lt_of_cell? w _ hx146_1)).trans hx146_1
        replace hx146_2 := (HB.out.cell (World.block_lt_of_cell? w _ hx146_2)).trans hx146_2
        replace hx146_3 := (HB.out.cell (World.block_lt_of_cell? w _ hx146_3)).trans hx146_3
        replace p146 := eq_true p146
        replace q146 := eq_true q146
        go_wp2_with (first | ((with_reducible refine gate_dst (N := 9) rfl ?_); refine box_event ?hg (N := 9) ?hd (cs := #[.int .i64 0, .int .i64 0, .int .u8 0, .int .i64 0]) (t := 29) ?hr ?_; (case hd => rfl); (case hg => rfl); (case hr => first | (go_simp; done) | (go_simp; rfl)); intro gb147 hg w10 hbox hb; have n0_ := Aside0.mk (below_step (by repeat (first | (with_reducible first | exact HB.out | apply below_alloc | apply pw_below_drewN | apply below_drew1) | exact HB.out)) hb); have n1_ := Aside0.mk (hbox); have n2_ := Aside0.mk ((by rw [hg]; exact (below_size (by repeat (first | (with_reducible first | exact HB.out | apply below_alloc | apply pw_below_drewN | apply below_drew1) | exact HB.out))) : w.heap.size ≤ gb147)); have n3_ := Aside0.mk ((by rw [hg]; exact (below_size (by repeat (first | (with_reducible first | exact HB.out | apply below_alloc | apply pw_below_drewN | apply below_drew1) | exact HB.out))) : w.heap.size ≤ gb147)); clear HB; have HB := n0_; have BK147 := n1_; have GW147 := n2_; have GE147 := n3_; clear n0_ n1_ n2_ n3_; clear hb hbox hg; have hcz11_0 : w10.cell? ⟨gb147, 0, none⟩ = some (.int .i64 0) := (blk_cell BK147.out 0).trans rfl; have hcz11_1 : w10.cell? ⟨gb147, 1, none⟩ = some (.int .i64 0) := (blk_cell BK147.out 1).trans rfl; have hcz11_2 : w10.cell? ⟨gb147, 2, none⟩ = some (.int .u8 0) := (blk_cell BK147.out 2).trans rfl; have hcz11_3 : w10.cell? ⟨gb147, 3, none⟩ = some (.int .i64 0) := (blk_cell BK147.out 3).trans rfl; have hfz11_0 := blk_frozen BK147.out 0; have hfz11_1 := blk_frozen BK147.out 1; have hfz11_2 := blk_frozen BK147.out 2; have hfz11_3 := blk_frozen BK147.out 3))
        go_roundg k1
        case measure => have := HK1.out; omega
        case rel => exact ⟨(wrap64 (x7_1 + 1)), (wrap64 (x17_1 + 1)), (by first | rfl | (simp; done) | (simp [*]; done)), (by first | rfl | (simp; done) | (simp [*]; done)), H', ⟨by have := HK1.out; omega⟩, ⟨by repeat (first | (with_reducible first | exact HB.out | apply below_alloc | apply pw_below_drewN | apply below_drew1 | refine below_set ?_ GE147.out) | exact HB.out)⟩⟩
       ·rw [if_neg c9] at H
        have c9b0 : decide (((rd_T29 l0 x17_1).f0) ≤ a1) = false := decide_eq_false c9
        clear c9
        have H' := Aside0.mk H
        clear H
        have p146 : 0 ≤ (x17_1 : Int) := of_decide_eq_true (by first | (with_reducible assumption) | assumption)
        have q146 : x17_1 < (l0.length : Int) := of_decide_eq_true (by first | (with_reducible assumption) | assumption)
        obtain ⟨ad146, e146, hx146_0, hx146_1, hx146_2, hx146_3⟩ := at_T29 HR0.out x17_1 p146 q146
        cases e146
        replace hx146_0 := (HB.out.cell (World.block_lt_of_cell? w _ hx146_0)).trans hx146_0
        replace hx146_1 := (HB.out.cell (World.block_lt_of_cell? w _ hx146_1)).trans hx146_1
        replace hx146_2 := (HB.out.cell (World.block_lt_of_cell? w _ hx146_2)).trans hx146_2
        replace hx146_3 := (HB.out.cell (World.block_lt_of_cell? w _ hx146_3)).trans hx146_3
        replace p146 := eq_true p146
        replace q146 := eq_true q146
        go_wp2_with (first | ((with_reducible refine gate_dst (N := 9) rfl ?_); refine box_event ?hg (N := 9) ?hd (cs := #[.int .i64 0, .int .i64 0, .int .u8 0, .int .i64 0]) (t := 29) ?hr ?_; (case hd => rfl); (case hg => rfl); (case hr => first | (go_simp; done) | (go_simp; rfl)); intro gb147 hg w12 hbox hb; have n0_ := Aside0.mk (below_step (by repeat (first | (with_reducible first | exact HB.out | apply below_alloc | apply pw_below_drewN | apply below_drew1) | exact HB.out)) hb); have n1_ := Aside0.mk (hbox); have n2_ := Aside0.mk ((by rw [hg]; exact (below_size (by repeat (first | (with_reducible first | exact HB.out | apply below_alloc | apply pw_below_drewN | apply below_drew1) | exact HB.out))) : w.heap.size ≤ gb147)); have n3_ := Aside0.mk ((by rw [hg]; exact (below_size (by repeat (first | (with_reducible first | exact HB.out | apply below_alloc | apply pw_below_drewN | apply below_drew1) | exact HB.out))) : w.heap.size ≤ gb147)); clear HB; have HB := n0_; have BK147 := n1_; have GW147 := n2_; have GE147 := n3_; clear n0_ n1_ n2_ n3_; clear hb hbox hg; have hcz13_0 : w12.cell? ⟨gb147, 0, none⟩ = some (.int .i64 0) := (blk_cell BK147.out 0).trans rfl; have hcz13_1 : w12.cell? ⟨gb147, 1, none⟩ = some (.int .i64 0) := (blk_cell BK147.out 1).trans rfl; have hcz13_2 : w12.cell? ⟨gb147, 2, none⟩ = some (.int .u8 0) := (blk_cell BK147.out 2).trans rfl; have hcz13_3 : w12.cell? ⟨gb147, 3, none⟩ = some (.int .i64 0) := (blk_cell BK147.out 3).trans rfl; have hfz13_0 := blk_frozen BK147.out 0; have hfz13_1 := blk_frozen BK147.out 1; have hfz13_2 := blk_frozen BK147.out 2; have hfz13_3 := blk_frozen BK147.out 3))
        go_roundg k1
        case measure => have := HK1.out; omega
        case rel => exact ⟨(x7_1), (wrap64 (x17_1 + 1)), (by first | rfl | (simp; done) | (simp [*]; done)), (by first | rfl | (simp; done) | (simp [*]; done)), H', ⟨by have := HK1.out; omega⟩, ⟨by repeat (first | (with_reducible first | exact HB.out | apply below_alloc | apply pw_below_drewN | apply below_drew1 | refine below_set ?_ GE147.out) | exact HB.out)⟩⟩
      ·rw [if_neg c8] at H
       exact absurd H (by simp)
     ·rw [if_neg c7] at H
      exact absurd H (by simp)
    ·rw [if_neg c6] at H
     have c6b0 : decide (x17_1 < (l0.length : Int)) = false := decide_eq_false c6
     clear c6
     simp only [Option.some.injEq, Prod.mk.injEq] at H
     obtain ⟨rfl, rfl⟩ := H
     go_wp2
     go_ret2
     exact ⟨by first | rfl | (simp [errW_none, errW_some] <;> rfl) | (simp [*, errW_none, errW_some] <;> rfl), by repeat (first | (with_reducible first | exact HB.out | apply below_alloc | apply pw_below_drewN | apply below_drew1) | exact HB.out)⟩
 ·rw [if_neg c4] at H
  have c4b0 : (t145 == 0) = false := beq_eq_false_iff_ne.mpr c4
  have c4b1 : (t145 != 0) = true := bne_iff_ne.mpr c4
  simp only [Option.some.injEq, Prod.mk.injEq] at H
  obtain ⟨rfl, rfl⟩ := H
  go_enter Try.func31, Try.ntmps31
  go_wp2_with (first | ((with_reducible refine gate_callee (f := 25) rfl ?_); refine goesL_ (some 11) rfl rfl Try.func25 (by kernel_rfl) rfl #[.slice A0 l0.length c0] rfl (by (try simp only [List.map_toArray, List.map_cons, List.map_nil]); first | done | rfl | (simp only [List.length_drop, List.length_take]; rfl)) ?_; (with_reducible refine (heap_Check.calls k _ _ l0 t145 _ ?side1 ?side2 A3.out).mono ?_); (case side1 => repeat (first | exact HR0.out | (with_reducible refine Kd.C_alloc ?_ _) | (with_reducible refine Kd.C_drewN ?_ _) | (with_reducible refine Kd.C_drew ?_))); (case side2 => exact HC0.out); rintro e w14 ⟨rfl, hb⟩; refine ⟨_, rfl, ?_⟩; have n0_ := Aside0.mk (below_step (by repeat (first | (with_reducible first | exact HB.out | apply below_alloc | apply pw_below_drewN | apply below_drew1) | exact HB.out)) hb); clear HB; have HB := n0_; clear n0_; (try clear hb); (try clear hb2); (try clear hk); (try clear hi)))
  go_ret2
  exact ⟨by first | rfl | (simp [errW_none, errW_some] <;> rfl) | (simp [*, errW_none, errW_some] <;> rfl), by repeat (first | (with_reducible first | exact HB.out | apply below_alloc | apply pw_below_drewN | apply below_drew1) | exact HB.out)⟩

/-! ### due_Next: function 33 -/
def due_Next.f (k : Nat) (l0 : List (S29)) : Option (Int × Int × Int × Int × Int) := (heap_Check.f k l0).bind fun t149 => (if t149 = 0 then (if (l0.length : Int) = 0 then (some (0, 0, 0, 0, 3)) else (if 0 < (l0.length : Int) then (some ((rd_T29 l0 0).f0, (rd_T29 l0 0).f1, (rd_T29 l0 0).f2, (rd_T29 l0 0).f3, 0)) else (none))) else (some (0, 0, 0, 0, t149)))
theorem due_Next.mono : ∀ a0 k, LeO (due_Next.f k a0) (due_Next.f (k + 1) a0) := by
 intro a0 k
 unfold due_Next.f
 repeat' first
   | (with_reducible exact heap_Check.mono _ _)
   | (with_reducible exact LeO.refl _)
   | (with_reducible exact LeO.none _)
   | (with_reducible refine LeO.ite ?_ ?_)
   | (with_reducible refine LeO.bind ?_ (fun _ => ?_))
   | exact heap_Check.mono _ _
   | exact LeO.none _
   | refine LeO.ite ?_ ?_
   | refine LeO.bind ?_ (fun _ => ?_)
set_option maxHeartbeats 8000000 in
set_option maxRecDepth 100000 in
theorem due_Next.calls (k : Nat) (A0 : Option Addr) (c0 : Nat) (l0 : List (S29)) (r1 : Int) (r2 : Int) (r3 : Int) (r4 : Int) (r5 : Int) (w : World) (hr0 : Kd.C k29 w A0 l0.length l0) (hc0 : l0.length ≤ c0) (h : due_Next.f k l0 = some (r1, r2, r3, r4, r5)) :
  Calls Try.prog 33 #[.slice A0 l0.length c0] w fun e w' => e = .returned (.tuple #[.agg #[.int .i64 r1, .int .i64 r2, .int .u8 r3, .int .i64 r4], .int .i64 r5]) ∧ Below w.heap.size w w' := by
 have hu29 := Try.underlying29
 have HR0 := Aside0.mk hr0
 have HC0 := Aside0.mk hc0
 clear hr0 hc0
 have HB := Aside0.mk (Below.refl w.heap.size w)
 have H : ((heap_Check.f k l0).bind fun t149 => (if t149 = 0 then (if (l0.length : Int) = 0 then (some (0, 0, 0, 0, 3)) else (if 0 < (l0.length : Int) then (some ((rd_T29 l0 0).f0, (rd_T29 l0 0).f1, (rd_T29 l0 0).f2, (rd_T29 l0 0).f3, 0)) else (none))) else (some (0, 0, 0, 0, t149)))) = some (r1, r2, r3, r4, r5) := h
 clear h
 replace H := Option.bind_eq_some_iff.mp H
 obtain ⟨t149, A20, H⟩ := H
 replace H : (if t149 = 0 then (if (l0.length : Int) = 0 then (some (0, 0, 0, 0, 3)) else (if 0 < (l0.length : Int) then (some ((rd_T29 l0 0).f0, (rd_T29 l0 0).f1, (rd_T29 l0 0).f2, (rd_T29 l0 0).f3, 0)) else (none))) else (some (0, 0, 0, 0, t149))) = some (r1, r2, r3, r4, r5) := H
 have A2 := Aside0.mk A20
 clear A20
 by_cases c3 : t149 = 0
 ·rw [if_pos c3] at H
  have c3b0 : (t149 == 0) = true := beq_iff_eq.mpr c3
  have c3b1 : (t149 != 0) = false := bne_eq_false_iff_eq.mpr c3
  clear c3
  by_cases c4 : (l0.length : Int) = 0
  ·rw [if_pos c4] at H
   have c4b0 : ((l0.length : Int) == 0) = true := beq_iff_eq.mpr c4
   have c4b1 : ((l0.length : Int) != 0) = false := bne_eq_false_iff_eq.mpr c4
   clear c4
   simp only [Option.some.injEq, Prod.mk.injEq] at H
   obtain ⟨rfl, rfl, rfl, rfl, rfl⟩ := H
   go_enter Try.func33, Try.ntmps33
   go_wp2_with (first | ((with_reducible refine gate_dst (N := 2) rfl ?_); refine box_event ?hg (N := 2) ?hd (cs := #[.int .i64 0, .int .i64 0, .int .u8 0, .int .i64 0]) (t := 29) ?hr ?_; (case hd => rfl); (case hg => rfl); (case hr => first | (go_simp; done) | (go_simp; rfl)); intro gb148 hg w5 hbox hb; have n0_ := Aside0.mk (below_step (by repeat (first | (with_reducible first | exact HB.out | apply below_alloc | apply pw_below_drewN | apply below_drew1) | exact HB.out)) hb); have n1_ := Aside0.mk (hbox); have n2_ := Aside0.mk ((by rw [hg]; exact (below_size (by repeat (first | (with_reducible first | exact HB.out | apply below_alloc | apply pw_below_drewN | apply below_drew1) | exact HB.out))) : w.heap.size ≤ gb148)); have n3_ := Aside0.mk ((by rw [hg]; exact (below_size (by repeat (first | (with_reducible first | exact HB.out | apply below_alloc | apply pw_below_drewN | apply below_drew1) | exact HB.out))) : w.heap.size ≤ gb148)); clear HB; have HB := n0_; have BK148 := n1_; have GW148 := n2_; have GE148 := n3_; clear n0_ n1_ n2_ n3_; clear hb hbox hg) | ((with_reducible refine gate_callee (f := 25) rfl ?_); refine goesL_ (some 6) rfl rfl Try.func25 (by kernel_rfl) rfl #[.slice A0 l0.length c0] rfl (by (try simp only [List.map_toArray, List.map_cons, List.map_nil]); first | done | rfl | (simp only [List.length_drop, List.length_take]; rfl)) ?_; (with_reducible refine (heap_Check.calls k _ _ l0 t149 _ ?side1 ?side2 A2.out).mono ?_); (case side1 => repeat (first | exact (Kd.C_below HR0.out HB.out) | (with_reducible refine Kd.C_alloc ?_ _) | (with_reducible refine Kd.C_drewN ?_ _) | (with_reducible refine Kd.C_drew ?_))); (case side2 => exact HC0.out); rintro e w6 ⟨rfl, hb⟩; refine ⟨_, rfl, ?_⟩; have n0_ := Aside0.mk (blk_below (g := gb148) (o := .cells #[.int .i64 0, .int .i64 0, .int .u8 0, .int .i64 0] 29 (0, 0)) (by (with_reducible repeat (first | refine blk_drewN ?_ _ | refine blk_drew ?_ | refine blk_alloc ?_ _)); exact BK148.out) hb); have n1_ := Aside0.mk (below_step (by repeat (first | (with_reducible first | exact HB.out | apply below_alloc | apply pw_below_drewN | apply below_drew1 | refine below_set ?_ GE148.out) | exact HB.out)) hb); clear BK148; clear HB; have BK148 := n0_; have HB := n1_; clear n0_ n1_; (try clear hb); (try clear hb2); (try clear hk); (try clear hi); have hcz7_0 : w6.cell? ⟨gb148, 0, none⟩ = some (.int .i64 0) := (blk_cell BK148.out 0).trans rfl; have hcz7_1 : w6.cell? ⟨gb148, 1, none⟩ = some (.int .i64 0) := (blk_cell BK148.out 1).trans rfl; have hcz7_2 : w6.cell? ⟨gb148, 2, none⟩ = some (.int .u8 0) := (blk_cell BK148.out 2).trans rfl; have hcz7_3 : w6.cell? ⟨gb148, 3, none⟩ = some (.int .i64 0) := (blk_cell BK148.out 3).trans rfl; have hfz7_0 := blk_frozen BK148.out 0; have hfz7_1 := blk_frozen BK148.out 1; have hfz7_2 := blk_frozen BK148.out 2; have hfz7_3 := blk_frozen BK148.out 3))
   refine bodyPost_ret (results_ct rfl _ _ gb148 29 #[.int .i64 0, .int .i64 0, .int .u8 0, .int .i64 0] (0, 0) _ rfl (by (with_reducible repeat (first | refine blk_drewN ?_ _ | refine blk_drew ?_ | refine blk_alloc ?_ _)); refine blk_put (cs := #[.int .i64 0, .int .i64 0, .int .u8 0, .int .i64 0]) ?_ 3 _ rfl; (with_reducible repeat (first | refine blk_drewN ?_ _ | refine blk_drew ?_ | refine blk_alloc ?_ _)); refine blk_put (cs := #[.int .i64 0, .int .i64 0, .int .u8 0, .int .i64 0]) ?_ 2 _ rfl; (with_reducible repeat (first | refine blk_drewN ?_ _ | refine blk_drew ?_ | refine blk_alloc ?_ _)); refine blk_put (cs := #[.int .i64 0, .int .i64 0, .int .u8 0, .int .i64 0]) ?_ 1 _ rfl; (with_reducible repeat (first | refine blk_drewN ?_ _ | refine blk_drew ?_ | refine blk_alloc ?_ _)); refine blk_put (cs := #[.int .i64 0, .int .i64 0, .int .u8 0, .int .i64 0]) ?_ 0 _ rfl; (with_reducible repeat (first | refine blk_drewN ?_ _ | refine blk_drew ?_ | refine blk_alloc ?_ _)); exact BK148.out) Try.underlying29 rfl (by kernel_rfl)) rfl ?_
   exact ⟨by first | rfl | (simp [errW_none, errW_some] <;> rfl) | (simp [*, errW_none, errW_some] <;> rfl), by repeat (first | (with_reducible first | exact HB.out | apply below_alloc | apply pw_below_drewN | apply below_drew1 | refine below_set ?_ GE148.out) | exact HB.out)⟩
  ·rw [if_neg c4] at H
   have c4b0 : ((l0.length : Int) == 0) = false := beq_eq_false_iff_ne.mpr c4
   have c4b1 : ((l0.length : Int) != 0) = true := bne_iff_ne.mpr c4
   have c4b2 : ¬ (l0 = []) := fun h_ => c4 (by rw [h_]; rfl)
   by_cases c8 : 0 < (l0.length : Int)
   ·rw [if_pos c8] at H
    have c8b0 : decide (0 < (l0.length : Int)) = true := decide_eq_true c8
    have c8b1 : decide (0 < l0.length) = true := decide_eq_true (by omega)
    clear c8
    simp only [Option.some.injEq, Prod.mk.injEq] at H
    obtain ⟨rfl, rfl, rfl, rfl, rfl⟩ := H
    go_enter Try.func33, Try.ntmps33
    go_wp2_with (first | ((with_reducible refine gate_dst (N := 2) rfl ?_); refine box_event ?hg (N := 2) ?hd (cs := #[.int .i64 0, .int .i64 0, .int .u8 0, .int .i64 0]) (t := 29) ?hr ?_; (case hd => rfl); (case hg => rfl); (case hr => first | (go_simp; done) | (go_simp; rfl)); intro gb148 hg w9 hbox hb; have n0_ := Aside0.mk (below_step (by repeat (first | (with_reducible first | exact HB.out | apply below_alloc | apply pw_below_drewN | apply below_drew1) | exact HB.out)) hb); have n1_ := Aside0.mk (hbox); have n2_ := Aside0.mk ((by rw [hg]; exact (below_size (by repeat (first | (with_reducible first | exact HB.out | apply below_alloc | apply pw_below_drewN | apply below_drew1) | exact HB.out))) : w.heap.size ≤ gb148)); have n3_ := Aside0.mk ((by rw [hg]; exact (below_size (by repeat (first | (with_reducible first | exact HB.out | apply below_alloc | apply pw_below_drewN | apply below_drew1) | exact HB.out))) : w.heap.size ≤ gb148)); clear HB; have HB := n0_; have BK148 := n1_; have GW148 := n2_; have GE148 := n3_; clear n0_ n1_ n2_ n3_; clear hb hbox hg) | ((with_reducible refine gate_callee (f := 25) rfl ?_); refine goesL_ (some 6) rfl rfl Try.func25 (by kernel_rfl) rfl #[.slice A0 l0.length c0] rfl (by (try simp only [List.map_toArray, List.map_cons, List.map_nil]); first | done | rfl | (simp only [List.length_drop, List.length_take]; rfl)) ?_; (with_reducible refine (heap_Check.calls k _ _ l0 t149 _ ?side1 ?side2 A2.out).mono ?_); (case side1 => repeat (first | exact (Kd.C_below HR0.out HB.out) | (with_reducible refine Kd.C_alloc ?_ _) | (with_reducible refine Kd.C_drewN ?_ _) | (with_reducible refine Kd.C_drew ?_))); (case side2 => exact HC0.out); rintro e w10 ⟨rfl, hb⟩; refine ⟨_, rfl, ?_⟩; have n0_ := Aside0.mk (blk_below (g := gb148) (o := .cells #[.int .i64 0, .int .i64 0, .int .u8 0, .int .i64 0] 29 (0, 0)) (by (with_reducible repeat (first | refine blk_drewN ?_ _ | refine blk_drew ?_ | refine blk_alloc ?_ _)); exact BK148.out) hb); have n1_ := Aside0.mk (below_step (by repeat (first | (with_reducible first | exact HB.out | apply below_alloc | apply pw_below_drewN | apply below_drew1 | refine below_set ?_ GE148.out) | exact HB.out)) hb); clear BK148; clear HB; have BK148 := n0_; have HB := n1_; clear n0_ n1_; (try clear hb); (try clear hb2); (try clear hk); (try clear hi); have p150 : 0 ≤ (0 : Int) := (by omega); have q150 : 0 < (l0.length : Int) := of_decide_eq_true (by first | (with_reducible assumption) | assumption); obtain ⟨ad150, e150, hx150_0, hx150_1, hx150_2, hx150_3⟩ := at_T29 HR0.out 0 p150 q150; cases e150; have qi150 : (0 < l0.length) = True := eq_true (by omega); (try rw [show ((0 : Int)).toNat = 0 from rfl] at hx150_0); (try rw [show 0 * 4 = 0 from rfl] at hx150_0); (try rw [Addr.add_zero'] at hx150_0); (try rw [show ((0 : Int)).toNat = 0 from rfl] at hx150_1); (try rw [show 0 * 4 = 0 from rfl] at hx150_1); (try rw [Addr.add_zero'] at hx150_1); (try rw [show ((0 : Int)).toNat = 0 from rfl] at hx150_2); (try rw [show 0 * 4 = 0 from rfl] at hx150_2); (try rw [Addr.add_zero'] at hx150_2); (try rw [show ((0 : Int)).toNat = 0 from rfl] at hx150_3); (try rw [show 0 * 4 = 0 from rfl] at hx150_3); (try rw [Addr.add_zero'] at hx150_3); replace hx150_0 := (HB.out.cell (World.block_lt_of_cell? w _ hx150_0)).trans hx150_0; replace hx150_1 := (HB.out.cell (World.block_lt_of_cell? w _ hx150_1)).trans hx150_1; replace hx150_2 := (HB.out.cell (World.block_lt_of_cell? w _ hx150_2)).trans hx150_2; replace hx150_3 := (HB.out.cell (World.block_lt_of_cell? w _ hx150_3)).trans hx150_3; replace p150 := eq_true p150; replace q150 := eq_true q150; have hcz11_0 : w10.cell? ⟨gb148, 0, none⟩ = some (.int .i64 0) := (blk_cell BK148.out 0).trans rfl; have hcz11_1 : w10.cell? ⟨gb148, 1, none⟩ = some (.int .i64 0) := (blk_cell BK148.out 1).trans rfl; have hcz11_2 : w10.cell? ⟨gb148, 2, none⟩ = some (.int .u8 0) := (blk_cell BK148.out 2).trans rfl; have hcz11_3 : w10.cell? ⟨gb148, 3, none⟩ = some (.int .i64 0) := (blk_cell BK148.out 3).trans rfl; have hfz11_0 := blk_frozen BK148.out 0; have hfz11_1 := blk_frozen BK148.out 1; have hfz11_2 := blk_frozen BK148.out 2; have hfz11_3 := blk_frozen BK148.out 3))
    refine bodyPost_ret (results_ct rfl _ _ gb148 29 #[.int .i64 ((rd_T29 l0 0).f0), .int .i64 ((rd_T29 l0 0).f1), .int .u8 ((rd_T29 l0 0).f2), .int .i64 ((rd_T29 l0 0).f3)] (0, 0) _ rfl (by (with_reducible repeat (first | refine blk_drewN ?_ _ | refine blk_drew ?_ | refine blk_alloc ?_ _)); refine blk_put (cs := #[.int .i64 ((rd_T29 l0 0).f0), .int .i64 ((rd_T29 l0 0).f1), .int .u8 ((rd_T29 l0 0).f2), .int .i64 0]) ?_ 3 _ rfl; (with_reducible repeat (first | refine blk_drewN ?_ _ | refine blk_drew ?_ | refine blk_alloc ?_ _)); refine blk_put (cs := #[.int .i64 ((rd_T29 l0 0).f0), .int .i64 ((rd_T29 l0 0).f1), .int .u8 0, .int .i64 0]) ?_ 2 _ rfl; (with_reducible repeat (first | refine blk_drewN ?_ _ | refine blk_drew ?_ | refine blk_alloc ?_ _)); refine blk_put (cs := #[.int .i64 ((rd_T29 l0 0).f0), .int .i64 0, .int .u8 0, .int .i64 0]) ?_ 1 _ rfl; (with_reducible repeat (first | refine blk_drewN ?_ _ | refine blk_drew ?_ | refine blk_alloc ?_ _)); refine blk_put (cs := #[.int .i64 0, .int .i64 0, .int .u8 0, .int .i64 0]) ?_ 0 _ rfl; (with_reducible repeat (first | refine blk_drewN ?_ _ | refine blk_drew ?_ | refine blk_alloc ?_ _)); exact BK148.out) Try.underlying29 rfl (by kernel_rfl)) rfl ?_
    exact ⟨by first | rfl | (simp [errW_none, errW_some] <;> rfl) | (simp [*, errW_none, errW_some] <;> rfl), by repeat (first | (with_reducible first | exact HB.out | apply below_alloc | apply pw_below_drewN | apply below_drew1 | refine below_set ?_ GE148.out) | exact HB.out)⟩
   ·rw [if_neg c8] at H
    exact absurd H (by simp)
 ·rw [if_neg c3] at H
  have c3b0 : (t149 == 0) = false := beq_eq_false_iff_ne.mpr c3
  have c3b1 : (t149 != 0) = true := bne_iff_ne.mpr c3
  simp only [Option.some.injEq, Prod.mk.injEq] at H
  obtain ⟨rfl, rfl, rfl, rfl, rfl⟩ := H
  go_enter Try.func33, Try.ntmps33
  go_wp2_with (first | ((with_reducible refine gate_dst (N := 2) rfl ?_); refine box_event ?hg (N := 2) ?hd (cs := #[.int .i64 0, .int .i64 0, .int .u8 0, .int .i64 0]) (t := 29) ?hr ?_; (case hd => rfl); (case hg => rfl); (case hr => first | (go_simp; done) | (go_simp; rfl)); intro gb148 hg w12 hbox hb; have n0_ := Aside0.mk (below_step (by repeat (first | (with_reducible first | exact HB.out | apply below_alloc | apply pw_below_drewN | apply below_drew1) | exact HB.out)) hb); have n1_ := Aside0.mk (hbox); have n2_ := Aside0.mk ((by rw [hg]; exact (below_size (by repeat (first | (with_reducible first | exact HB.out | apply below_alloc | apply pw_below_drewN | apply below_drew1) | exact HB.out))) : w.heap.size ≤ gb148)); have n3_ := Aside0.mk ((by rw [hg]; exact (below_size (by repeat (first | (with_reducible first | exact HB.out | apply below_alloc | apply pw_below_drewN | apply below_drew1) | exact HB.out))) : w.heap.size ≤ gb148)); clear HB; have HB := n0_; have BK148 := n1_; have GW148 := n2_; have GE148 := n3_; clear n0_ n1_ n2_ n3_; clear hb hbox hg) | ((with_reducible refine gate_callee (f := 25) rfl ?_); refine goesL_ (some 6) rfl rfl Try.func25 (by kernel_rfl) rfl #[.slice A0 l0.length c0] rfl (by (try simp only [List.map_toArray, List.map_cons, List.map_nil]); first | done | rfl | (simp only [List.length_drop, List.length_take]; rfl)) ?_; (with_reducible refine (heap_Check.calls k _ _ l0 t149 _ ?side1 ?side2 A2.out).mono ?_); (case side1 => repeat (first | exact (Kd.C_below HR0.out HB.out) | (with_reducible refine Kd.C_alloc ?_ _) | (with_reducible refine Kd.C_drewN ?_ _) | (with_reducible refine Kd.C_drew ?_))); (case side2 => exact HC0.out); rintro e w13 ⟨rfl, hb⟩; refine ⟨_, rfl, ?_⟩; have n0_ := Aside0.mk (blk_below (g := gb148) (o := .cells #[.int .i64 0, .int .i64 0, .int .u8 0, .int .i64 0] 29 (0, 0)) (by (with_reducible repeat (first | refine blk_drewN ?_ _ | refine blk_drew ?_ | refine blk_alloc ?_ _)); exact BK148.out) hb); have n1_ := Aside0.mk (below_step (by repeat (first | (with_reducible first | exact HB.out | apply below_alloc | apply pw_below_drewN | apply below_drew1 | refine below_set ?_ GE148.out) | exact HB.out)) hb); clear BK148; clear HB; have BK148 := n0_; have HB := n1_; clear n0_ n1_; (try clear hb); (try clear hb2); (try clear hk); (try clear hi); have hcz14_0 : w13.cell? ⟨gb148, 0, none⟩ = some (.int .i64 0) := (blk_cell BK148.out 0).trans rfl; have hcz14_1 : w13.cell? ⟨gb148, 1, none⟩ = some (.int .i64 0) := (blk_cell BK148.out 1).trans rfl; have hcz14_2 : w13.cell? ⟨gb148, 2, none⟩ = some (.int .u8 0) := (blk_cell BK148.out 2).trans rfl; have hcz14_3 : w13.cell? ⟨gb148, 3, none⟩ = some (.int .i64 0) := (blk_cell BK148.out 3).trans rfl; have hfz14_0 := blk_frozen BK148.out 0; have hfz14_1 := blk_frozen BK148.out 1; have hfz14_2 := blk_frozen BK148.out 2; have hfz14_3 := blk_frozen BK148.out 3))
  refine bodyPost_ret (results_ct rfl _ _ gb148 29 #[.int .i64 0, .int .i64 0, .int .u8 0, .int .i64 0] (0, 0) _ rfl (by (with_reducible repeat (first | refine blk_drewN ?_ _ | refine blk_drew ?_ | refine blk_alloc ?_ _)); refine blk_put (cs := #[.int .i64 0, .int .i64 0, .int .u8 0, .int .i64 0]) ?_ 3 _ rfl; (with_reducible repeat (first | refine blk_drewN ?_ _ | refine blk_drew ?_ | refine blk_alloc ?_ _)); refine blk_put (cs := #[.int .i64 0, .int .i64 0, .int .u8 0, .int .i64 0]) ?_ 2 _ rfl; (with_reducible repeat (first | refine blk_drewN ?_ _ | refine blk_drew ?_ | refine blk_alloc ?_ _)); refine blk_put (cs := #[.int .i64 0, .int .i64 0, .int .u8 0, .int .i64 0]) ?_ 1 _ rfl; (with_reducible repeat (first | refine blk_drewN ?_ _ | refine blk_drew ?_ | refine blk_alloc ?_ _)); refine blk_put (cs := #[.int .i64 0, .int .i64 0, .int .u8 0, .int .i64 0]) ?_ 0 _ rfl; (with_reducible repeat (first | refine blk_drewN ?_ _ | refine blk_drew ?_ | refine blk_alloc ?_ _)); exact BK148.out) Try.underlying29 rfl (by kernel_rfl)) rfl ?_
  exact ⟨by first | rfl | (simp [errW_none, errW_some] <;> rfl) | (simp [*, errW_none, errW_some] <;> rfl), by repeat (first | (with_reducible first | exact HB.out | apply below_alloc | apply pw_below_drewN | apply below_drew1 | refine below_set ?_ GE148.out) | exact HB.out)⟩

/-! ### due_Move: function 35, by hand -/
/-- A timer moved within a right heap. -/
def du_pushed (l : List S29) (x : S29) : List S29 × Int := (if 0 ≤ hp_find x.f1 l then l else if l.length = 4096 then l else Hp.up z29 tm_lt l.length (l ++ [x]) l.length, if 0 ≤ hp_find x.f1 l then 4 else if l.length = 4096 then 8 else 0)
def du_move (seq due : Int) (l : List S29) : List S29 × Int :=
 if hp_find seq l < 0 then (l, 3) else du_pushed (Hp.take_ z29 tm_lt l (hp_find seq l).toNat) { Hp.g z29 l (hp_find seq l).toNat with f0 := due }
def due_Move.f (k : Nat) (l0 : List (S29)) (a1 : Int) (a2 : Int) : Option ((List (S29)) × Int) := heap_fit l0 ((heap_Check.f k l0).bind fun why => some (if why = 0 then du_move a1 a2 l0 else ([], why)))
theorem due_Move.mono : ∀ a0 a1 a2 k, LeO (due_Move.f k a0 a1 a2) (due_Move.f (k + 1) a0 a1 a2) := fun a0 a1 a2 k => heap_fit_le (LeO.bind (heap_Check.mono _ _) (fun _ => LeO.refl _))
set_option maxHeartbeats 2000000 in
set_option maxRecDepth 100000 in
theorem due_Move.calls (k : Nat) (A0 : Option Addr) (c0 : Nat) (l0 : List (S29)) (a1 : Int) (a2 : Int) (r1 : List (S29)) (r2 : Int) (w : World) (hr0 : Kd.C k29 w A0 l0.length l0) (hc0 : l0.length ≤ c0) (h : due_Move.f k l0 a1 a2 = some (r1, r2)) :
  Calls Try.prog 35 #[.slice A0 l0.length c0, .int .i64 a1, .int .i64 a2] w fun e w' => ∃ v0_ : Value, e = .returned (.tuple #[v0_, .int .i64 r2]) ∧ Kd.V k29 29 w' w.heap.size (fun k_ => (w.heap.size ≤ k_)) v0_ r1 ∧ Below w.heap.size w w' := by
 have hu := Try.underlying29
 obtain ⟨hlen, h⟩ := heap_fit_some h
 obtain ⟨why, hch, h⟩ := Option.bind_eq_some_iff.mp h
 have HO := heap_Open k A0 c0 l0 why w hr0 hc0 hch hlen
 clear hr0 hch
 have H := Option.some.inj h
 clear h
 by_cases c : why = 0
 rotate_left
 ·rw [if_neg c] at H
  rw [if_neg c] at HO
  have d : (why != 0) = true := bne_iff_ne.mpr c
  simp only [Prod.mk.injEq] at H
  obtain ⟨rfl, rfl⟩ := H
  go_enter Try.func35, Try.ntmps35
  go_wp2_with (go_at_call 46; refine HO.mono ?_; rintro e w3 ⟨g, rfl, hq3, hb3⟩)
  refine bodyPost_ret (v := .tuple #[.slice none 0 0, .int .i64 why]) (by simp [results, Try.results35, go_sem]) rfl ⟨_, rfl, Kd.V_nil _ _ _ _ _, hb3⟩
 ·rw [if_pos c] at H HO
  subst c
  have HH := Lib.hid H
  clear H
  go_enter Try.func35, Try.ntmps35
  go_upto_region 4 with (go_at_call 46; refine HO.mono ?_; rintro e w3 ⟨g, rfl, hq3, hb3⟩; have HB3 := Lib.hid hb3; have HQ3 := Lib.hid hq3; have HZ3 := Lib.hid hb3.size; clear hb3 hq3)
  have hlen2 : l0.length ≤ 4398046511104 := by omega
  have HC := queue_cancel _ g l0 a1 w3 hlen2 (fun k hk => hk.2) HQ3.out
  by_cases hf : hp_find a1 l0 < 0
  ·rw [if_pos hf, if_pos hf, if_pos hf] at HC
   have hh := HH.out
   unfold du_move at hh
   rw [if_pos hf] at hh
   simp only [Prod.mk.injEq] at hh
   obtain ⟨hh1, rfl⟩ := hh
   have HH1 := Lib.hid hh1
   clear hh1 HH
   go_upto_region 8 with (go_at_call 47; refine HC.mono ?_; rintro e w5 ⟨x, rfl, rfl, hq5, hm5⟩; have HQ5 := Lib.hid hq5; have HM5 := Lib.hid hm5; clear hq5 hm5)
   have hb6 := below_alloc (Below.refl w5.heap.size w5) (.cells #[.int .i64 z29.f0, .int .i64 z29.f1, .int .u8 z29.f2, .int .i64 z29.f3] 29)
   generalize w5.alloc (.cells #[.int .i64 z29.f0, .int .i64 z29.f1, .int .u8 z29.f2, .int .i64 z29.f3] 29) = w6 at hb6 ⊢
   have hq6 := HQ5.out.below hb6
   have hm6 := HM5.out.below hb6
   obtain ⟨A, c, hrow, _⟩ := hq6.all
   have HA := queue_all g A _ c w6 hrow
   have fv := hq6.toV (B := w.heap.size) hrow (fun k hk => hk.1)
   rw [HH1.out] at fv
   have fb := HB3.out.trans (hm6.under (B := w.heap.size) HZ3.out (fun k hk => hk.1))
   clear hq6 hm6 hb6 hrow
   go_wp2_with (go_at_call 49; refine HA.mono ?_; rintro e w7 ⟨rfl, rfl⟩)
   refine bodyPost_ret (v := .tuple #[.slice A l0.length c, .int .i64 3]) (by simp [results, Try.results35, go_sem]) rfl ⟨_, rfl, ?_, fb⟩
   rw [HH1.out]
   exact fv
  ·rw [if_neg hf, if_neg hf, if_neg hf] at HC
   have hh := HH.out
   unfold du_move at hh
   rw [if_neg hf] at hh
   have HH1 := Lib.hid hh
   clear hh HH
   go_upto_region 7 with (go_at_call 47; refine HC.mono ?_; rintro e w5 ⟨x, hx, rfl, hq5, hm5⟩; have HQ5 := Lib.hid hq5; have HM5 := Lib.hid hm5; have HX := Lib.hid hx; clear hq5 hm5 hx)
   have hb6 := below_alloc (Below.refl w5.heap.size w5) (.cells #[.int .i64 a2, .int .i64 x.f1, .int .u8 x.f2, .int .i64 x.f3] 29)
   have hx6 := blk_new w5 (.cells #[.int .i64 a2, .int .i64 x.f1, .int .u8 x.f2, .int .i64 x.f3] 29)
   generalize w5.alloc (.cells #[.int .i64 a2, .int .i64 x.f1, .int .u8 x.f2, .int .i64 x.f3] 29) = w6 at hb6 hx6 ⊢
   obtain ⟨s5, hs5⟩ : ∃ s5, s5 = w5.heap.size := ⟨_, rfl⟩
   rw [← hs5] at hx6 ⊢
   have x0 := blk_cell hx6 0
   have x1 := blk_cell hx6 1
   have x2 := blk_cell hx6 2
   have x3 := blk_cell hx6 3
   simp only [List.getElem?_toArray, List.getElem?_cons_zero, List.getElem?_cons_succ] at x0 x1 x2 x3
   have hq6 := HQ5.out.below hb6
   have hm6 := HM5.out.below hb6
   have hh := HH1.out
   rw [← HX.out] at hh
   have hl2 : (Hp.take_ z29 tm_lt l0 (hp_find a1 l0).toNat).length < 4398046511104 := by
    rw [(Hp.take_perm z29 (lt := tm_lt) l0 _ (hp_find_lt a1 l0 (by omega))).2]; omega
   have HP := queue_push _ g _ ⟨a2, x.f1, x.f2, x.f3⟩ w6 hl2 (fun k hk => Nat.lt_of_lt_of_le hk.2 hm6.size) hq6
   generalize Hp.take_ z29 tm_lt l0 (hp_find a1 l0).toNat = l2 at HP hh
   unfold du_pushed at hh
   simp only [Prod.mk.injEq] at hh
   obtain ⟨hh1, hh2⟩ := hh
   simp only at HP
   rw [hh1, hh2] at HP
   have HM6 := Lib.hid hm6
   clear hq6 hm6 hb6 hx6 hs5 hh1 hh2 hl2
   go_upto_region 8 with (go_at_call 56; refine HP.mono ?_; rintro e w7 ⟨rfl, hq7, hm7⟩; have HQ7 := Lib.hid hq7; have HM7 := Lib.hid hm7; clear hq7 hm7)
   obtain ⟨A, c, hrow, _⟩ := HQ7.out.all
   have HA := queue_all g A _ c w7 hrow
   have fv := HQ7.out.toV (B := w.heap.size) hrow (fun k hk => by
    rcases hk with hk | hk
    ·exact hk.1
    ·exact Nat.le_trans (Nat.le_trans HZ3.out HM6.out.size) hk.1)
   have fb := HB3.out.trans ((HM6.out.then_ HM7.out (fun k hk => .inl hk)).under (B := w.heap.size) HZ3.out (fun k hk => hk.1))
   clear hrow
   go_wp2_with (go_at_call 49; refine HA.mono ?_; rintro e w8 ⟨rfl, rfl⟩)
   refine bodyPost_ret (v := .tuple #[.slice A r1.length c, .int .i64 r2]) (by simp [results, Try.results35, go_sem]) rfl ⟨_, rfl, fv, fb⟩


-- NOT PRINTED: function 77 (api_Timer_77)

-- NOT PRINTED: function 96 (api_Timer_96)

-- NOT PRINTED: function 78 (api_Timer_78)

-- NOT PRINTED: function 79 (api_Timer_79)

-- NOT PRINTED: function 104 (api_Timer_104)

-- NOT PRINTED: function 100 (api_Timer_100)

-- NOT PRINTED: function 99 (api_Timer_99)

-- NOT PRINTED: function 80 (api_Timer_80)

-- NOT PRINTED: function 81 (api_Timer_81)

-- NOT PRINTED: function 82 (api_Timer_82)

-- NOT PRINTED: function 83 (api_Timer_83)

-- NOT PRINTED: function 84 (api_Timer_84)

-- NOT PRINTED: function 67 (api_Timer_67)

-- PXIMPORT YtlpbolkbdcgmnaaGSort
-- PXIMPORT YtlpbolkbdcgmnaaGLayT
-- PXIMPORT YtlpbolkbdcgmnaaQHeapS
/-! ### api_Timer_52: function 52, by hand -/
theorem tm_or_f (x y : Int) : cmp_Or_int.f 3 [x, y] = some (if x = 0 then y else x) := by
 unfold cmp_Or_int.f
 by_cases h : x = 0
 ·subst h
  by_cases h2 : y = 0
  ·subst h2; simp [cmp_Or_int.l0, rd, wrap64]
  ·simp [cmp_Or_int.l0, rd, wrap64, h2]
 ·simp [cmp_Or_int.l0, rd, wrap64, h]
set_option maxHeartbeats 1000000 in
set_option maxRecDepth 100000 in
theorem tm_cmp1 (x y : S29) (w : World) : Calls Try.prog 53 #[.agg #[.int .i64 x.f0, .int .i64 x.f1, .int .u8 x.f2, .int .i64 x.f3], .agg #[.int .i64 y.f0, .int .i64 y.f1, .int .u8 y.f2, .int .i64 y.f3]] w fun e w' => e = .returned (.int .i64 (tm_cf x y)) ∧ ∃ q os', w' = Go.Sort.grow (w.drewN q) os' := by
 have hu := Try.underlying29
 have hc1 := fun W' => AnyG.cmp_Compare_int Try.lay_cmp64 x.f0 y.f0 W'
 change ∀ W', Calls Try.prog 70 _ _ _ at hc1
 have hc2 := fun W' => AnyG.cmp_Compare_int Try.lay_cmp64 x.f1 y.f1 W'
 change ∀ W', Calls Try.prog 70 _ _ _ at hc2
 have hcf : tm_cf x y = if Lib.compareInt x.f0 y.f0 = 0 then Lib.compareInt x.f1 y.f1 else Lib.compareInt x.f0 y.f0 := by
  unfold tm_cf Lib.compareInt
  repeat' split
  all_goals omega
 have hor := tm_or_f (Lib.compareInt x.f0 y.f0) (Lib.compareInt x.f1 y.f1)
 rw [← hcf] at hor
 clear hcf
 generalize tm_cf x y = r at hor ⊢
 generalize Lib.compareInt x.f0 y.f0 = r1 at hc1 hor
 generalize Lib.compareInt x.f1 y.f1 = r2 at hc2 hor
 have HOR := Lib.hid hor
 clear hor
 go_enter Try.func53, Try.ntmps53
 go_wp2_with fail
 obtain ⟨W2, hW2⟩ : ∃ W2, W2 = (w.alloc (.cells #[.int .i64 x.f0, .int .i64 x.f1, .int .u8 x.f2, .int .i64 x.f3] 29)).alloc (.cells #[.int .i64 y.f0, .int .i64 y.f1, .int .u8 y.f2, .int .i64 y.f3] 29) := ⟨_, rfl⟩
 rw [← hW2]
 have hA : W2.heap[w.heap.size]? = some (.cells #[.int .i64 x.f0, .int .i64 x.f1, .int .u8 x.f2, .int .i64 x.f3] 29) := by rw [hW2]; exact ((below_alloc (Below.refl _ _) _).block _ (by simp)).trans (blk_new w _)
 have hB : W2.heap[w.heap.size + 1]? = some (.cells #[.int .i64 y.f0, .int .i64 y.f1, .int .u8 y.f2, .int .i64 y.f3] 29) := by rw [hW2]; exact blk_new (w.alloc (.cells #[.int .i64 x.f0, .int .i64 x.f1, .int .u8 x.f2, .int .i64 x.f3] 29)) _ |>.symm ▸ by simp
 have a0 := blk_cell hA 0
 have a1 := blk_cell hA 1
 have b0 := blk_cell hB 0
 have b1 := blk_cell hB 1
 simp only [List.getElem?_toArray, List.getElem?_cons_zero, List.getElem?_cons_succ] at a0 a1 b0 b1
 clear hA hB
 have HW2 := Lib.hid hW2
 clear hW2
 refine wp_region_still_tail 10 (by kernel_rfl) (by kernel_rfl) ?_
 simp only [List.take_succ_cons, List.take_zero, List.drop_succ_cons, List.drop_zero]
 iterate 4 still_step
 still_call (hc1 _)
 iterate 4 still_step
 still_call (hc2 _)
 refine wpStill_nil ?_
 change wpList _ _ _ _ _ W2.drew
 have HCO : Calls Try.prog 69 #[.slice (some ⟨W2.heap.size, 0, none⟩) 2 2] ((W2.alloc (.cells #[.int .i64 r1, .int .i64 r2] 3)).drew) fun e w' => e = .returned (.int .i64 r) ∧ ∃ n, w' = ((W2.alloc (.cells #[.int .i64 r1, .int .i64 r2] 3)).drew).drewN n := by
  have hnew := blk_new W2 (.cells #[.int .i64 r1, .int .i64 r2] 3)
  refine (cmp_Or_int.calls 3 (some ⟨W2.heap.size, 0, none⟩) 2 [r1, r2] _ _ ⟨rfl, by simp, fun _ => ⟨_, rfl, fun j p hj => ?_⟩⟩ (Nat.le_refl _) HOR.out).mono (fun e w' h => ⟨h.1, h.2.out⟩)
  have hc : ∀ k, ((W2.alloc (.cells #[.int .i64 r1, .int .i64 r2] 3)).drew).cell? ⟨W2.heap.size, k, none⟩ = #[Value.int .i64 r1, Value.int .i64 r2][k]? := fun k => blk_cell hnew k
  refine ⟨[.int .i64 p], rfl, rfl, fun t u hu => ?_⟩
  have ht : t = 0 := by have := (List.getElem?_eq_some_iff.1 hu).1; simp at this; exact this
  subst ht
  rw [Addr.add_lit, hc]
  have hu2 : Value.int .i64 p = u := by simpa using hu
  rw [← hu2]
  show #[Value.int .i64 r1, Value.int .i64 r2][0 + (j * 1 + 0)]? = _
  rw [show 0 + (j * 1 + 0) = j by omega]
  match j, hj with
  | 0, hj => simp at hj; subst hj; rfl
  | 1, hj => simp at hj; subst hj; rfl
  | j + 2, hj => simp at hj
 go_wp2_with (go_at_call 69; refine HCO.mono ?_; rintro e w5 ⟨rfl, n, rfl⟩)
 go_ret
 refine ⟨rfl, ?_⟩
 refine ⟨1 + n, #[Obj.cells #[.int .i64 x.f0, .int .i64 x.f1, .int .u8 x.f2, .int .i64 x.f3] 29, Obj.cells #[.int .i64 y.f0, .int .i64 y.f1, .int .u8 y.f2, .int .i64 y.f3] 29, Obj.cells #[.int .i64 r1, .int .i64 r2] 3], ?_⟩
 rw [HW2.out, Go.Sort.alloc_eq_grow, Go.Sort.alloc_eq_grow, Go.Sort.alloc_eq_grow, Go.Sort.grow_grow, Go.Sort.grow_grow]
 have hdg : ∀ (W : World) (os : Array Obj) (n : Nat), (Go.Sort.grow W os).drewN n = Go.Sort.grow (W.drewN n) os := fun _ _ _ => rfl
 rw [hdg]
 rfl
theorem tm_swo2 : Go.Sort.SWO (ltOf tm_cf) where
 irrefl x := by unfold ltOf; rw [tm_cf_lt]; exact tm_swo.irr x
 trans x y z h1 h2 := by unfold ltOf at *; rw [tm_cf_lt] at *; exact tm_swo.tr x y z h1 h2
 ntrans x y z h1 h2 := by unfold ltOf at *; rw [tm_cf_lt] at *; exact tm_swo.le_tr h2 h1
theorem tm_apart {l : List S29} (h : (l.map (·.f1)).Nodup) : Hp.Apart tm_lt l := by
 intro a ha b hb h1 h2
 unfold tm_lt at h1 h2
 simp only [decide_eq_false_iff_not] at h1 h2
 have he : a.f1 = b.f1 := by omega
 have hinj : ∀ (l : List S29), (l.map (·.f1)).Nodup → a ∈ l → b ∈ l → a = b := by
  intro l
  induction l with
  | nil => intro _ h _; cases h
  | cons x l ih =>
   intro hn ha hb
   rw [List.map_cons, List.nodup_cons] at hn
   rcases List.mem_cons.mp ha with rfl | ha2 <;> rcases List.mem_cons.mp hb with rfl | hb2
   ·rfl
   ·exact absurd (List.mem_map.mpr ⟨b, hb2, he.symm⟩) hn.1
   ·exact absurd (List.mem_map.mpr ⟨a, ha2, he⟩) hn.1
   ·exact ih hn.2 ha2 hb2
 exact hinj l h ha hb
theorem tm_sorted (l : List S29) (d' : Array S29) (h : (l.map (·.f1)).Nodup) (hp : @Go.Sort.PermIn S29 ⟨z29⟩ 0 l.toArray.size l.toArray d') (hs : @Go.Sort.SortedIn S29 ⟨z29⟩ (ltOf tm_cf) 0 l.toArray.size d') : d'.toList = Hp.srt tm_lt l := by
 letI : Inhabited S29 := ⟨z29⟩
 have hsz : d'.size = l.toArray.size := hp.1
 refine (Hp.srt_of tm_swo (tm_apart h) ?_ ?_).symm
 ·have h3 := hp.2.2
  rw [← hsz, Array.extract_size] at h3
  rw [hsz, Array.extract_size] at h3
  simpa using h3
 ·unfold Hp.Up
  rw [List.pairwise_iff_getElem]
  intro i j hi hj hij
  have hj' : j < d'.size := by simpa using hj
  have h4 := hs i j (Nat.zero_le _) hij (by rw [← hsz]; exact hj')
  unfold ltOf at h4
  rw [tm_cf_lt, getElem!_pos d' j hj', getElem!_pos d' i (by omega)] at h4
  simpa using h4
def api_Timer_52.f (l0 : List (S29)) : Option (List (S29)) := if l0.length < 4611686018427387904 ∧ (l0.map (·.f1)).Nodup then some (Hp.srt tm_lt l0) else none
theorem api_Timer_52.calls (P0_ : Nat → Prop) (u9000_ : Value) (l0 : List (S29)) (r : List (S29)) (w0 w : World) (hB : Below w0.heap.size w0 w) (ho0 : Kd.R k29 29 w w0.heap.size P0_ u9000_ l0) (h : api_Timer_52.f l0 = some r) :
  Calls Try.prog 52 #[u9000_, .func (.func 53) #[] #[]] w fun e w' => e = .returned (.tuple #[]) ∧ Kd.R k29 29 w' w0.heap.size (fun k_ => (P0_ k_ ∨ w.heap.size ≤ k_)) u9000_ r ∧ Below w0.heap.size w0 w' ∧ Kept w w' (fun k_ => P0_ k_) := by
 letI : Inhabited S29 := ⟨z29⟩
 unfold api_Timer_52.f at h
 split at h
 rotate_left
 ·cases h
 rename_i hcond
 obtain ⟨hsz, hnd⟩ := hcond
 obtain rfl := Option.some.inj h
 clear h
 have hO := ho0
 obtain ⟨hok, inner, ⟨hlen, hor⟩, hreps⟩ := ho0
 rcases hor with ⟨rfl, h0⟩ | ⟨g, cap, cur, rfl, hg, hrow, hnc, hcm, hcs, htake⟩
 ·obtain rfl : l0 = [] := List.eq_nil_of_length_eq_zero h0
  refine (AnyF.slices_SortFunc_none Try.lay_tsort none 0 _ w).mono ?_
  rintro e w' ⟨rfl, rfl⟩
  exact ⟨rfl, Kd.R_nil _ _ _ _ _, hB, Kept.refl _ _⟩
 ·by_cases h0 : l0.length = 0
  ·obtain rfl : l0 = [] := List.eq_nil_of_length_eq_zero h0
   refine (AnyF.slices_SortFunc_none Try.lay_tsort (some ⟨g, 0, none⟩) cap _ w).mono ?_
   rintro e w' ⟨rfl, rfl⟩
   exact ⟨rfl, Kd.R_mono hO (fun _ hk => .inl hk), hB, Kept.refl _ _⟩
  ·have hP : P0_ g := hok g (by simp [Value.ownBlock])
   have hH : Go.Sort.HoldsK tm_enc 4 w g 0 l0.toArray := gs_holds (fun p c hp => k29_openM hp) hreps hrow htake
   have hblk : g < w.heap.size := (Array.getElem?_eq_some_iff.mp hrow).1
   have eg : ∀ args w, (callFunc 53 args).run Try.prog w = .ok (.enter 53 args) w := enters_of Try.func53 (by kernel_rfl) rfl
   have hcon := AnyQ.slices_SortFunc Try.lay_tsort 4 Try.isAgg29 Try.sizeOf29 tm_enc (fun _ => rfl) (fun x v hv => by simp [tm_enc] at hv; rcases hv with rfl | rfl | rfl | rfl <;> rfl) tm_cf tm_swo2 53 #[] g 0 cap l0.toArray w eg (fun _ _ _ _ x y => tm_cmp1 x y _) hH hblk hsz
   refine hcon.mono ?_
   rintro e w' ⟨rfl, d', n, os, hp, hs, hw⟩
   have hd := tm_sorted l0 d' hnd hp hs
   obtain ⟨h1, h2, h3⟩ := gs_done (d := k29) (enc := tm_enc) (ys := d') (fun _ => rfl) (fun x w base ok => k29_mkM w base ok x) hB hg hP hrow hnc hcm hcs (by have := hp.1; simpa using this) hw
   rw [hd] at h1
   exact ⟨rfl, Kd.R_mono h1 (fun _ hk => .inl hk), h2, h3⟩


/-! ### heap_Sorted: function 20 -/
def heap_Sorted.f (k : Nat) (l0 : List (S29)) : Option ((List (S29)) × Int) := (heap_Check.f k l0).bind fun t151 => (if t151 = 0 then ((api_Timer_44.f l0).bind fun t152 => ((api_Timer_52.f t152).bind fun t155 => (some (t155, 0)))) else (some (([] : List (S29)), t151)))
theorem heap_Sorted.mono : ∀ a0 k, LeO (heap_Sorted.f k a0) (heap_Sorted.f (k + 1) a0) := by
 intro a0 k
 unfold heap_Sorted.f
 repeat' first
   | (with_reducible exact heap_Check.mono _ _)
   | (with_reducible exact LeO.refl _)
   | (with_reducible exact LeO.none _)
   | (with_reducible refine LeO.ite ?_ ?_)
   | (with_reducible refine LeO.bind ?_ (fun _ => ?_))
   | exact heap_Check.mono _ _
   | exact LeO.none _
   | refine LeO.ite ?_ ?_
   | refine LeO.bind ?_ (fun _ => ?_)
set_option maxHeartbeats 8000000 in
set_option maxRecDepth 100000 in
theorem heap_Sorted.calls (k : Nat) (A0 : Option Addr) (c0 : Nat) (l0 : List (S29)) (r1 : List (S29)) (r2 : Int) (w : World) (hr0 : Kd.C k29 w A0 l0.length l0) (hc0 : l0.length ≤ c0) (h : heap_Sorted.f k l0 = some (r1, r2)) :
  Calls Try.prog 20 #[.slice A0 l0.length c0] w fun e w' => ∃ v0_ : Value, e = .returned (.tuple #[v0_, .int .i64 r2]) ∧ Kd.R k29 29 w' w.heap.size (fun _ => True) v0_ r1 ∧ Below w.heap.size w w' := by
 have HR0 := Aside0.mk hr0
 have HC0 := Aside0.mk hc0
 clear hr0 hc0
 have HB := Aside0.mk (Below.refl w.heap.size w)
 have H : ((heap_Check.f k l0).bind fun t151 => (if t151 = 0 then ((api_Timer_44.f l0).bind fun t152 => ((api_Timer_52.f t152).bind fun t155 => (some (t155, 0)))) else (some (([] : List (S29)), t151)))) = some (r1, r2) := h
 clear h
 replace H := Option.bind_eq_some_iff.mp H
 obtain ⟨t151, A20, H⟩ := H
 replace H : (if t151 = 0 then ((api_Timer_44.f l0).bind fun t152 => ((api_Timer_52.f t152).bind fun t155 => (some (t155, 0)))) else (some (([] : List (S29)), t151))) = some (r1, r2) := H
 have A2 := Aside0.mk A20
 clear A20
 by_cases c3 : t151 = 0
 ·rw [if_pos c3] at H
  have c3b0 : (t151 == 0) = true := beq_iff_eq.mpr c3
  have c3b1 : (t151 != 0) = false := bne_eq_false_iff_eq.mpr c3
  clear c3
  replace H := Option.bind_eq_some_iff.mp H
  obtain ⟨t152, A40, H⟩ := H
  replace H : ((api_Timer_52.f t152).bind fun t155 => (some (t155, 0))) = some (r1, r2) := H
  have A4 := Aside0.mk A40
  clear A40
  replace H := Option.bind_eq_some_iff.mp H
  obtain ⟨t155, A50, H⟩ := H
  replace H : (some (t155, 0)) = some (r1, r2) := H
  have A5 := Aside0.mk A50
  clear A50
  simp only [Option.some.injEq, Prod.mk.injEq] at H
  obtain ⟨rfl, rfl⟩ := H
  go_enter Try.func20, Try.ntmps20
  go_wp2_with (first | ((with_reducible refine gate_callee (f := 25) rfl ?_); refine goesL_ (some 7) rfl rfl Try.func25 (by kernel_rfl) rfl #[.slice A0 l0.length c0] rfl (by (try simp only [List.map_toArray, List.map_cons, List.map_nil]); first | done | rfl | (simp only [List.length_drop, List.length_take]; rfl)) ?_; (with_reducible refine (heap_Check.calls k _ _ l0 t151 _ ?side1 ?side2 A2.out).mono ?_); (case side1 => repeat (first | exact HR0.out | (with_reducible refine Kd.C_alloc ?_ _) | (with_reducible refine Kd.C_drewN ?_ _) | (with_reducible refine Kd.C_drew ?_))); (case side2 => exact HC0.out); rintro e w6 ⟨rfl, hb⟩; refine ⟨_, rfl, ?_⟩; have n0_ := Aside0.mk (below_step (by repeat (first | (with_reducible first | exact HB.out | apply below_alloc | apply pw_below_drewN | apply below_drew1) | exact HB.out)) hb); clear HB; have HB := n0_; clear n0_; (try clear hb); (try clear hb2); (try clear hk); (try clear hi)) | ((with_reducible refine gate_callee (f := 44) rfl ?_); refine goesL_ (some 12) rfl rfl Try.func44 (by kernel_rfl) rfl #[.slice A0 l0.length c0] rfl (by (try simp only [List.map_toArray, List.map_cons, List.map_nil]); first | done | rfl | (simp only [List.length_drop, List.length_take]; rfl)) ?_; (with_reducible refine (api_Timer_44.calls _ _ l0 t152 _ ?side1 ?side2 A4.out).mono ?_); (case side1 => repeat (first | exact (Kd.C_below HR0.out HB.out) | (with_reducible refine Kd.C_alloc ?_ _) | (with_reducible refine Kd.C_drewN ?_ _) | (with_reducible refine Kd.C_drew ?_))); (case side2 => exact HC0.out); rintro e w7 ⟨v153, rfl, ho0, hb⟩; refine ⟨_, rfl, ?_⟩; have n0_ := Aside0.mk (Kd.R_lower ho0 (below_size (by repeat (first | (with_reducible first | exact HB.out | apply below_alloc | apply pw_below_drewN | apply below_drew1) | exact HB.out)))); have n1_ := Aside0.mk (below_step (by repeat (first | (with_reducible first | exact HB.out | apply below_alloc | apply pw_below_drewN | apply below_drew1) | exact HB.out)) hb); clear HB; have HO154 := n0_; have HB := n1_; clear n0_ n1_; (try clear hb); (try clear hb2); (try clear hk); (try clear hi); (try clear ho0); obtain ⟨Ao8, co8, eo8⟩ := Kd.R_slice HO154.out; subst eo8) | ((with_reducible refine gate_callee (f := 52) rfl ?_); refine goesL_ (some 14) rfl rfl Try.func52 (by kernel_rfl) rfl #[.slice Ao8 t152.length co8, .func (.func 53) #[] #[]] rfl (by (try simp only [List.map_toArray, List.map_cons, List.map_nil]); first | done | rfl | (simp only [List.length_drop, List.length_take]; rfl)) ?_; (with_reducible refine (api_Timer_52.calls (fun k_ => some k_ = (.slice Ao8 t152.length co8 : Value).ownBlock) (.slice Ao8 t152.length co8) t152 t155 w _ ?side1 ?side2 A5.out).mono ?_); (case side1 => repeat (first | (with_reducible first | exact HB.out | apply below_alloc | apply pw_below_drewN | apply below_drew1) | exact HB.out)); (case side2 => exact Kd.R_tight rfl HO154.out); rintro e w9 ⟨rfl, hy0, hb, hkp⟩; refine ⟨_, rfl, ?_⟩; have n0_ := Aside0.mk (Kd.R_reok rfl hy0 (fun k_ e_ => HO154.out.1 k_ e_)); have n1_ := Aside0.mk (hb); clear HO154; clear HB; have HO154 := n0_; have HB := n1_; clear n0_ n1_; (try clear hb); (try clear hkp); (try clear hy0)))
  go_ret2
  exact ⟨_, by first | rfl | (simp [errW_none, errW_some] <;> rfl) | (simp [*, errW_none, errW_some] <;> rfl), by (with_reducible repeat (first | apply Kd.R_alloc | apply Kd.R_drewN | apply Kd.R_drew)); exact HO154.out, by repeat (first | (with_reducible first | exact HB.out | apply below_alloc | apply pw_below_drewN | apply below_drew1) | exact HB.out)⟩
 ·rw [if_neg c3] at H
  have c3b0 : (t151 == 0) = false := beq_eq_false_iff_ne.mpr c3
  have c3b1 : (t151 != 0) = true := bne_iff_ne.mpr c3
  simp only [Option.some.injEq, Prod.mk.injEq] at H
  obtain ⟨rfl, rfl⟩ := H
  go_enter Try.func20, Try.ntmps20
  go_wp2_with (first | ((with_reducible refine gate_callee (f := 25) rfl ?_); refine goesL_ (some 7) rfl rfl Try.func25 (by kernel_rfl) rfl #[.slice A0 l0.length c0] rfl (by (try simp only [List.map_toArray, List.map_cons, List.map_nil]); first | done | rfl | (simp only [List.length_drop, List.length_take]; rfl)) ?_; (with_reducible refine (heap_Check.calls k _ _ l0 t151 _ ?side1 ?side2 A2.out).mono ?_); (case side1 => repeat (first | exact HR0.out | (with_reducible refine Kd.C_alloc ?_ _) | (with_reducible refine Kd.C_drewN ?_ _) | (with_reducible refine Kd.C_drew ?_))); (case side2 => exact HC0.out); rintro e w10 ⟨rfl, hb⟩; refine ⟨_, rfl, ?_⟩; have n0_ := Aside0.mk (below_step (by repeat (first | (with_reducible first | exact HB.out | apply below_alloc | apply pw_below_drewN | apply below_drew1) | exact HB.out)) hb); clear HB; have HB := n0_; clear n0_; (try clear hb); (try clear hb2); (try clear hk); (try clear hi)))
  go_ret2
  exact ⟨_, by first | rfl | (simp [errW_none, errW_some] <;> rfl) | (simp [*, errW_none, errW_some] <;> rfl), by first | exact Kd.R_nil _ _ _ _ _ | exact Kd.N_nil _ _ _ _ _ | exact Kd.V_nil _ _ _ _ _ | exact Kd.Q_nil _ _ _ _ _ | exact Kd.S_nil _ _ _ _ _, by repeat (first | (with_reducible first | exact HB.out | apply below_alloc | apply pw_below_drewN | apply below_drew1) | exact HB.out)⟩

-- PXIMPORT Derived.BigRegion
-- PXIMPORT Derived.Laws.EntriesVeiled
/-! ### due_Of: function 37, by hand -/
def due_Of.f (k : Nat) (l0 : List (S29)) (a1 : Int) (a2 : Int) : Option ((List (S29)) × Int) := (heap_Sorted.f k l0).bind fun r => heap_fit r.1 (some (if r.2 = 0 then (r.1.filter (du_is a1 a2), 0) else ([], r.2)))
theorem due_Of.mono : ∀ a0 a1 a2 k, LeO (due_Of.f k a0 a1 a2) (due_Of.f (k + 1) a0 a1 a2) := fun a0 a1 a2 k => LeO.bind (heap_Sorted.mono _ _) (fun _ => LeO.refl _)
set_option maxHeartbeats 2000000 in
set_option maxRecDepth 100000 in
theorem due_Of.calls (k : Nat) (A0 : Option Addr) (c0 : Nat) (l0 : List (S29)) (a1 : Int) (a2 : Int) (r1 : List (S29)) (r2 : Int) (w : World) (hr0 : Kd.C k29 w A0 l0.length l0) (hc0 : l0.length ≤ c0) (h : due_Of.f k l0 a1 a2 = some (r1, r2)) :
  Calls Try.prog 37 #[.slice A0 l0.length c0, .int .u8 a1, .int .i64 a2] w fun e w' => ∃ v0_ : Value, e = .returned (.tuple #[v0_, .int .i64 r2]) ∧ Kd.V k29 29 w' w.heap.size (fun k_ => (w.heap.size ≤ k_)) v0_ r1 ∧ Below w.heap.size w w' := by
 letI : Inhabited S29 := ⟨z29⟩
 have hu := Try.underlying29
 obtain ⟨⟨sl, why⟩, hsd, h⟩ := Option.bind_eq_some_iff.mp h
 obtain ⟨hlen, h⟩ := heap_fit_some h
 have HS := heap_Sorted.calls k A0 c0 l0 sl why w hr0 hc0 hsd
 clear hr0 hsd
 have H := Option.some.inj h
 clear h
 simp only at hlen H
 by_cases c : why = 0
 rotate_left
 ·rw [if_neg c] at H
  have d : (why != 0) = true := bne_iff_ne.mpr c
  simp only [Prod.mk.injEq] at H
  obtain ⟨rfl, rfl⟩ := H
  go_enter Try.func37, Try.ntmps37
  go_wp2_with (go_at_call 20; refine HS.mono ?_; rintro e w3 ⟨v3, rfl, hr3, hb3⟩)
  refine bodyPost_ret (v := .tuple #[.slice none 0 0, .int .i64 why]) (by simp [results, Try.results37, go_sem]) rfl ⟨_, rfl, Kd.V_nil _ _ _ _ _, hb3⟩
 ·rw [if_pos c] at H
  subst c
  simp only [Prod.mk.injEq] at H
  obtain ⟨hr1, rfl⟩ := H
  have HR1 := Lib.hid hr1
  clear hr1
  go_enter Try.func37, Try.ntmps37
  go_upto_region 5 with (first | (go_at_call 20; refine HS.mono ?_; rintro e w3 ⟨v3, rfl, hr3, hb3⟩; have HR3 := Lib.hid hr3; have HB3 := Lib.hid hb3; clear hr3 hb3) | (go_at_call 57; refine (due_of _ _ _).mono ?_; rintro e w4 ⟨rfl, rfl⟩))
  obtain ⟨s, hs⟩ : ∃ s, s = w3.heap.size := ⟨_, rfl⟩
  have ht3 : TRow tm_enc 4 29 w3 v3 sl := TRow.ofR (d := k29) (fun hp => k29_openM hp) rfl HR3.out
  have hbase := fun k hk => Kd.R_base HR3.out k hk
  obtain ⟨A3, c3, rfl, hlc3⟩ := ht3.slice
  have hown : ∀ k, (Value.slice A3 sl.length c3).ownBlock = some k → w.heap.size ≤ k ∧ k < s := fun k hk => ⟨hbase k hk, by rw [hs]; exact ht3.lt k hk⟩
  have hb5 : Below w3.heap.size w3 (((w3.alloc (.cells #[.int .u8 a1] 5)).alloc (.cells #[.int .i64 a2] 2)).alloc (.cells #[.func (.func 72) #[] #[.pointer (some ⟨w3.heap.size, 0, none⟩), .pointer (some ⟨w3.heap.size + 1, 0, none⟩)]] 75)) := below_alloc (below_alloc (below_alloc (Below.refl _ _) _) _) _
  have h1 : (((w3.alloc (.cells #[.int .u8 a1] 5)).alloc (.cells #[.int .i64 a2] 2)).alloc (.cells #[.func (.func 72) #[] #[.pointer (some ⟨w3.heap.size, 0, none⟩), .pointer (some ⟨w3.heap.size + 1, 0, none⟩)]] 75)).heap[w3.heap.size]? = some (.cells #[.int .u8 a1] 5 (0, 0)) := blk_alloc (blk_alloc (blk_new _ _) _) _
  have h2 : (((w3.alloc (.cells #[.int .u8 a1] 5)).alloc (.cells #[.int .i64 a2] 2)).alloc (.cells #[.func (.func 72) #[] #[.pointer (some ⟨w3.heap.size, 0, none⟩), .pointer (some ⟨w3.heap.size + 1, 0, none⟩)]] 75)).heap[w3.heap.size + 1]? = some (.cells #[.int .i64 a2] 2 (0, 0)) := blk_alloc (by have := blk_new (w3.alloc (.cells #[.int .u8 a1] 5)) (.cells #[.int .i64 a2] 2); rwa [World.size_alloc] at this) _
  have h3 : (((w3.alloc (.cells #[.int .u8 a1] 5)).alloc (.cells #[.int .i64 a2] 2)).alloc (.cells #[.func (.func 72) #[] #[.pointer (some ⟨w3.heap.size, 0, none⟩), .pointer (some ⟨w3.heap.size + 1, 0, none⟩)]] 75)).heap[w3.heap.size + 1 + 1]? = some (.cells #[.func (.func 72) #[] #[.pointer (some ⟨w3.heap.size, 0, none⟩), .pointer (some ⟨w3.heap.size + 1, 0, none⟩)]] 75 (0, 0)) := by have := blk_new ((w3.alloc (.cells #[.int .u8 a1] 5)).alloc (.cells #[.int .i64 a2] 2)) (.cells #[.func (.func 72) #[] #[.pointer (some ⟨w3.heap.size, 0, none⟩), .pointer (some ⟨w3.heap.size + 1, 0, none⟩)]] 75); simpa only [World.size_alloc] using this
  generalize ((w3.alloc (.cells #[.int .u8 a1] 5)).alloc (.cells #[.int .i64 a2] 2)).alloc (.cells #[.func (.func 72) #[] #[.pointer (some ⟨w3.heap.size, 0, none⟩), .pointer (some ⟨w3.heap.size + 1, 0, none⟩)]] 75) = w5 at hb5 h1 h2 h3 ⊢
  rw [← hs] at h1 h2 h3 ⊢
  have ht5 : TRow tm_enc 4 29 w5 (.slice A3 sl.length c3) sl := ht3.moved (fun k hk => hb5.block k (ht3.lt k hk))
  have hws : w.heap.size ≤ s := by rw [hs]; exact HB3.out.size
  have eg : ∀ args w, (callFunc 59 args).run Try.prog w = .ok (.enter 59 args) w := enters_of Try.func59 (by kernel_rfl) rfl
  have HD := slices_DeleteT (fun x => !du_is a1 a2 x) 59 #[.pointer (some ⟨s + 1 + 1, 0, none⟩)] eg A3 c3 sl w5 (by omega) ht5
   (fun x W hm => due_Of1 a1 a2 x (s + 1 + 1) s (s + 1) W ((blk_cell (hm.blk h1 (fun h => by have := hown _ h; omega)) 0).trans rfl) ((blk_cell (hm.blk h2 (fun h => by have := hown _ h; omega)) 0).trans rfl) ((blk_cell (hm.blk h3 (fun h => by have := hown _ h; omega)) 0).trans rfl))
  have hbw5 : Below w.heap.size w w5 := HB3.out.trans (hb5.mono HB3.out.size)
  have HOWN := Lib.hid hown
  have HBW := Lib.hid hbw5
  clear h1 h2 h3 hb5 ht3 ht5 hbase hs hown hbw5
  have hfl : sl.filter (fun x => !(!du_is a1 a2 x)) = sl.filter (du_is a1 a2) := by simp only [Bool.not_not]
  rw [hfl, HR1.out] at HD
  go_wp2_with (with_reducible refine HD.mono ?_; rintro e w6 ⟨A6, n6, rfl, hn6, ht6, ho6, hm6⟩)
  subst hn6
  refine bodyPost_ret (v := .tuple #[.slice A6 r1.length c3, .int .i64 0]) (by simp [results, Try.results37, go_sem]) rfl ?_
  exact ⟨_, rfl, ht6.toV (d := k29) (fun w x => k29_mk w x) (fun _ => rfl) rfl w.heap.size (fun k hk => (HOWN.out k (ho6 k hk)).1), HBW.out.trans (hm6.under HBW.out.size (fun k hk => (HOWN.out k hk).1))⟩


-- PXIMPORT Derived.BigRegion
-- PXIMPORT Derived.Laws.EntriesVeiled
/-! ### due_Clear: function 39, by hand -/
def due_Clear.f (k : Nat) (l0 : List (S29)) (a1 : Int) (a2 : Int) : Option ((List (S29)) × Int × Int) := (heap_Sorted.f k l0).bind fun r => heap_fit r.1 (some (if r.2 = 0 then (r.1.filter (fun x => !du_is a1 a2 x), wrap64 ((l0.length : Int) - ((r.1.filter (fun x => !du_is a1 a2 x)).length : Int)), 0) else ([], 0, r.2)))
theorem due_Clear.mono : ∀ a0 a1 a2 k, LeO (due_Clear.f k a0 a1 a2) (due_Clear.f (k + 1) a0 a1 a2) := fun a0 a1 a2 k => LeO.bind (heap_Sorted.mono _ _) (fun _ => LeO.refl _)
set_option maxHeartbeats 2000000 in
set_option maxRecDepth 100000 in
theorem due_Clear.calls (k : Nat) (A0 : Option Addr) (c0 : Nat) (l0 : List (S29)) (a1 : Int) (a2 : Int) (r1 : List (S29)) (r2 : Int) (r3 : Int) (w : World) (hr0 : Kd.C k29 w A0 l0.length l0) (hc0 : l0.length ≤ c0) (h : due_Clear.f k l0 a1 a2 = some (r1, r2, r3)) :
  Calls Try.prog 39 #[.slice A0 l0.length c0, .int .u8 a1, .int .i64 a2] w fun e w' => ∃ v0_ : Value, e = .returned (.tuple #[v0_, .int .i64 r2, .int .i64 r3]) ∧ Kd.V k29 29 w' w.heap.size (fun k_ => (w.heap.size ≤ k_)) v0_ r1 ∧ Below w.heap.size w w' := by
 letI : Inhabited S29 := ⟨z29⟩
 have hu := Try.underlying29
 obtain ⟨⟨sl, why⟩, hsd, h⟩ := Option.bind_eq_some_iff.mp h
 obtain ⟨hlen, h⟩ := heap_fit_some h
 have HS := heap_Sorted.calls k A0 c0 l0 sl why w hr0 hc0 hsd
 clear hr0 hsd
 have H := Option.some.inj h
 clear h
 simp only at hlen H
 by_cases c : why = 0
 rotate_left
 ·rw [if_neg c] at H
  have d : (why != 0) = true := bne_iff_ne.mpr c
  simp only [Prod.mk.injEq] at H
  obtain ⟨rfl, rfl, rfl⟩ := H
  go_enter Try.func39, Try.ntmps39
  go_wp2_with (go_at_call 20; refine HS.mono ?_; rintro e w3 ⟨v3, rfl, hr3, hb3⟩)
  refine bodyPost_ret (v := .tuple #[.slice none 0 0, .int .i64 0, .int .i64 why]) (by simp [results, Try.results39, go_sem]) rfl ⟨_, rfl, Kd.V_nil _ _ _ _ _, hb3⟩
 ·rw [if_pos c] at H
  subst c
  simp only [Prod.mk.injEq] at H
  obtain ⟨hr1, hr2, rfl⟩ := H
  have HR1 := Lib.hid hr1
  clear hr1
  go_enter Try.func39, Try.ntmps39
  go_upto_region 5 with (first | (go_at_call 20; refine HS.mono ?_; rintro e w3 ⟨v3, rfl, hr3, hb3⟩; have HR3 := Lib.hid hr3; have HB3 := Lib.hid hb3; clear hr3 hb3) | (go_at_call 57; refine (due_of _ _ _).mono ?_; rintro e w4 ⟨rfl, rfl⟩))
  obtain ⟨s, hs⟩ : ∃ s, s = w3.heap.size := ⟨_, rfl⟩
  have ht3 : TRow tm_enc 4 29 w3 v3 sl := TRow.ofR (d := k29) (fun hp => k29_openM hp) rfl HR3.out
  have hbase := fun k hk => Kd.R_base HR3.out k hk
  obtain ⟨A3, c3, rfl, hlc3⟩ := ht3.slice
  have hown : ∀ k, (Value.slice A3 sl.length c3).ownBlock = some k → w.heap.size ≤ k ∧ k < s := fun k hk => ⟨hbase k hk, by rw [hs]; exact ht3.lt k hk⟩
  have hb5 : Below w3.heap.size w3 ((w3.alloc (.cells #[.int .u8 a1] 5)).alloc (.cells #[.int .i64 a2] 2)) := below_alloc (below_alloc (Below.refl _ _) _) _
  have h1 : ((w3.alloc (.cells #[.int .u8 a1] 5)).alloc (.cells #[.int .i64 a2] 2)).heap[w3.heap.size]? = some (.cells #[.int .u8 a1] 5 (0, 0)) := blk_alloc (blk_new _ _) _
  have h2 : ((w3.alloc (.cells #[.int .u8 a1] 5)).alloc (.cells #[.int .i64 a2] 2)).heap[w3.heap.size + 1]? = some (.cells #[.int .i64 a2] 2 (0, 0)) := by have := blk_new (w3.alloc (.cells #[.int .u8 a1] 5)) (.cells #[.int .i64 a2] 2); rwa [World.size_alloc] at this
  generalize (w3.alloc (.cells #[.int .u8 a1] 5)).alloc (.cells #[.int .i64 a2] 2) = w5 at hb5 h1 h2 ⊢
  rw [← hs] at h1 h2 ⊢
  have ht5 : TRow tm_enc 4 29 w5 (.slice A3 sl.length c3) sl := ht3.moved (fun k hk => hb5.block k (ht3.lt k hk))
  have hws : w.heap.size ≤ s := by rw [hs]; exact HB3.out.size
  have eg : ∀ args w, (callFunc 72 args).run Try.prog w = .ok (.enter 72 args) w := enters_of Try.func72 (by kernel_rfl) rfl
  have HD := slices_DeleteT (du_is a1 a2) 72 #[.pointer (some ⟨s, 0, none⟩), .pointer (some ⟨s + 1, 0, none⟩)] eg A3 c3 sl w5 (by omega) ht5
   (fun x W hm => due_of1 a1 a2 x s (s + 1) W ((blk_cell (hm.blk h1 (fun h => by have := hown _ h; omega)) 0).trans rfl) ((blk_cell (hm.blk h2 (fun h => by have := hown _ h; omega)) 0).trans rfl))
  have hbw5 : Below w.heap.size w w5 := HB3.out.trans (hb5.mono HB3.out.size)
  have HOWN := Lib.hid hown
  have HBW := Lib.hid hbw5
  clear h1 h2 hb5 ht3 ht5 hbase hs hown hbw5
  rw [HR1.out] at HD
  go_wp2_with (with_reducible refine HD.mono ?_; rintro e w6 ⟨A6, n6, rfl, hn6, ht6, ho6, hm6⟩)
  rw [HR1.out] at hr2
  subst hn6
  refine bodyPost_ret (v := .tuple #[.slice A6 r1.length c3, .int .i64 r2, .int .i64 0]) (by simp [results, Try.results39, go_sem, hr2]) rfl ?_
  exact ⟨_, rfl, ht6.toV (d := k29) (fun w x => k29_mk w x) (fun _ => rfl) rfl w.heap.size (fun k hk => (HOWN.out k (ho6 k hk)).1), HBW.out.trans (hm6.under HBW.out.size (fun k hk => (HOWN.out k hk).1))⟩


end Go.Proofs.Ytlpbolkbdcgmnaa.XD
-- squeezed
