-- by px.py, a program of this session, over the kit's printer: functions given by hand stand beside printed ones. Lean checks all of it.
import Derived.Test.YtcblmfcgjemgkaaDoorXS0
import Derived.Test.YtcblmfcgjemgkaaDoorXS17
namespace Go.Proofs.YtcblmfcgjemgkaaDoor.XS
open Go.RowKit Go.Proofs.YtcblmfcgjemgkaaDoorW.PrintWords Go.Proofs.YtcblmfcgjemgkaaDoorW.PrintLast Go.Proofs.YtcblmfcgjemgkaaDoorW.PrintMore
attribute [local go_sem] max2_int min2_int max_two min_two max_three min_three max_four min_four   -- for this text's walks alone
set_option linter.unusedVariables false
set_option linter.unusedSimpArgs false

/-! ### bellmanref10_Write: function 16 -/
mutual
def bellmanref10_Write.l0 : Nat → ByteArray → List (S40) → Int → Int → Option (ByteArray × Int)
 | 0, _, _, _, _ => none
 | k + 1, x4, x13, x14, x15 => if x15 < x14 then (if 0 ≤ x15 then (if x15 < (x13.length : Int) then (if ((rd_T40 x13 x15).f0) = 1 then (if x4.size + ((rd_T40 x13 x15).f1).size ≤ 9223372036854775807 then (bellmanref10_Write.l0 k (x4 ++ ((rd_T40 x13 x15).f1)) x13 x14 (wrap64 (x15 + 1))) else (none)) else (bellmanref10_Write.l1 k x4 (⟨#[]⟩ : ByteArray) x13 x14 x15 ((rd_T40 x13 x15).f2) (((rd_T40 x13 x15).f2).length : Int) 0 ((rd_T40 x13 x15).f0) ((rd_T40 x13 x15).f1) ((rd_T40 x13 x15).f2))) else (none)) else (none)) else (if (x4.size : Int) > 1024 then (some ((⟨#[]⟩ : ByteArray), 12)) else (some (x4, 0)))
def bellmanref10_Write.l1 : Nat → ByteArray → ByteArray → List (S40) → Int → Int → List ByteArray → Int → Int → Int → ByteArray → List ByteArray → Option (ByteArray × Int)
 | 0, _, _, _, _, _, _, _, _, _, _, _ => none
 | k + 1, x4, x7, x13, x14, x15, x27, x28, x29, x286000, x286001, x286002 => if x29 < x28 then (if 0 ≤ x29 then (if x29 < (x27.length : Int) then (if x29 > 0 then (if x7.size + 1 ≤ 9223372036854775807 then (if (x7 ++ (⟨#[46]⟩ : ByteArray)).size + (rdOf ByteArray.empty x27 x29).size ≤ 9223372036854775807 then (bellmanref10_Write.l1 k x4 ((x7 ++ (⟨#[46]⟩ : ByteArray)) ++ (rdOf ByteArray.empty x27 x29)) x13 x14 x15 x27 x28 (wrap64 (x29 + 1)) x286000 x286001 x286002) else (none)) else (none)) else (if x7.size + (rdOf ByteArray.empty x27 x29).size ≤ 9223372036854775807 then (bellmanref10_Write.l1 k x4 (x7 ++ (rdOf ByteArray.empty x27 x29)) x13 x14 x15 x27 x28 (wrap64 (x29 + 1)) x286000 x286001 x286002) else (none))) else (none)) else (none)) else (if x286000 = 3 then (if 3 + x7.size ≤ 9223372036854775807 then (if 2 + ((⟨#[105, 102, 32]⟩ : ByteArray) ++ x7).size ≤ 9223372036854775807 then (if ((⟨#[123, 123]⟩ : ByteArray) ++ ((⟨#[105, 102, 32]⟩ : ByteArray) ++ x7)).size + 2 ≤ 9223372036854775807 then (if x4.size + (((⟨#[123, 123]⟩ : ByteArray) ++ ((⟨#[105, 102, 32]⟩ : ByteArray) ++ x7)) ++ (⟨#[125, 125]⟩ : ByteArray)).size ≤ 9223372036854775807 then (bellmanref10_Write.l0 k (x4 ++ (((⟨#[123, 123]⟩ : ByteArray) ++ ((⟨#[105, 102, 32]⟩ : ByteArray) ++ x7)) ++ (⟨#[125, 125]⟩ : ByteArray))) x13 x14 (wrap64 (x15 + 1))) else (none)) else (none)) else (none)) else (none)) else (if x286000 = 5 then (if 5 + x7.size ≤ 9223372036854775807 then (if 2 + ((⟨#[101, 97, 99, 104, 32]⟩ : ByteArray) ++ x7).size ≤ 9223372036854775807 then (if ((⟨#[123, 123]⟩ : ByteArray) ++ ((⟨#[101, 97, 99, 104, 32]⟩ : ByteArray) ++ x7)).size + 2 ≤ 9223372036854775807 then (if x4.size + (((⟨#[123, 123]⟩ : ByteArray) ++ ((⟨#[101, 97, 99, 104, 32]⟩ : ByteArray) ++ x7)) ++ (⟨#[125, 125]⟩ : ByteArray)).size ≤ 9223372036854775807 then (bellmanref10_Write.l0 k (x4 ++ (((⟨#[123, 123]⟩ : ByteArray) ++ ((⟨#[101, 97, 99, 104, 32]⟩ : ByteArray) ++ x7)) ++ (⟨#[125, 125]⟩ : ByteArray))) x13 x14 (wrap64 (x15 + 1))) else (none)) else (none)) else (none)) else (none)) else (if x286000 = 4 then (if 2 + 4 ≤ 9223372036854775807 then (if 5 + 2 ≤ 9223372036854775807 then (if x4.size + (((⟨#[123, 123]⟩ : ByteArray) ++ (⟨#[101, 108, 115, 101]⟩ : ByteArray)) ++ (⟨#[125, 125]⟩ : ByteArray)).size ≤ 9223372036854775807 then (bellmanref10_Write.l0 k (x4 ++ (((⟨#[123, 123]⟩ : ByteArray) ++ (⟨#[101, 108, 115, 101]⟩ : ByteArray)) ++ (⟨#[125, 125]⟩ : ByteArray))) x13 x14 (wrap64 (x15 + 1))) else (none)) else (none)) else (none)) else (if x286000 = 6 then (if 2 + 3 ≤ 9223372036854775807 then (if 4 + 2 ≤ 9223372036854775807 then (if x4.size + (((⟨#[123, 123]⟩ : ByteArray) ++ (⟨#[101, 110, 100]⟩ : ByteArray)) ++ (⟨#[125, 125]⟩ : ByteArray)).size ≤ 9223372036854775807 then (bellmanref10_Write.l0 k (x4 ++ (((⟨#[123, 123]⟩ : ByteArray) ++ (⟨#[101, 110, 100]⟩ : ByteArray)) ++ (⟨#[125, 125]⟩ : ByteArray))) x13 x14 (wrap64 (x15 + 1))) else (none)) else (none)) else (none)) else (if 2 + x7.size ≤ 9223372036854775807 then (if ((⟨#[123, 123]⟩ : ByteArray) ++ x7).size + 2 ≤ 9223372036854775807 then (if x4.size + (((⟨#[123, 123]⟩ : ByteArray) ++ x7) ++ (⟨#[125, 125]⟩ : ByteArray)).size ≤ 9223372036854775807 then (bellmanref10_Write.l0 k (x4 ++ (((⟨#[123, 123]⟩ : ByteArray) ++ x7) ++ (⟨#[125, 125]⟩ : ByteArray))) x13 x14 (wrap64 (x15 + 1))) else (none)) else (none)) else (none))))))
end
def bellmanref10_Write.f (k : Nat) (l0 : List (S40)) : Option (ByteArray × Int) := (bellmanref10_Check.f k l0).bind fun t283 => (if t283 = 0 then (bellmanref10_Write.l0 k (⟨#[]⟩ : ByteArray) l0 (l0.length : Int) 0) else (some ((⟨#[]⟩ : ByteArray), 2)))
theorem bellmanref10_Write.mono_l : ∀ k, (∀ y0 y1 y2 y3, LeO (bellmanref10_Write.l0 k y0 y1 y2 y3) (bellmanref10_Write.l0 (k + 1) y0 y1 y2 y3)) ∧ (∀ y0 y1 y2 y3 y4 y5 y6 y7 y8 y9 y10, LeO (bellmanref10_Write.l1 k y0 y1 y2 y3 y4 y5 y6 y7 y8 y9 y10) (bellmanref10_Write.l1 (k + 1) y0 y1 y2 y3 y4 y5 y6 y7 y8 y9 y10))
 | 0 => ⟨fun _ _ _ _ r h => by simp [bellmanref10_Write.l0] at h, fun _ _ _ _ _ _ _ _ _ _ _ r h => by simp [bellmanref10_Write.l1] at h⟩
 | k + 1 => by
  obtain ⟨ih0, ih1⟩ := bellmanref10_Write.mono_l k
  refine ⟨?_, ?_⟩
  ·intro y0 y1 y2 y3
   unfold bellmanref10_Write.l0
   repeat' first
   | (with_reducible exact ih0 _ _ _ _)
   | (with_reducible exact ih1 _ _ _ _ _ _ _ _ _ _ _)
   | (with_reducible exact bellmanref10_Check.mono _ _)
   | (with_reducible exact LeO.refl _)
   | (with_reducible exact LeO.none _)
   | (with_reducible refine LeO.ite ?_ ?_)
   | (with_reducible refine LeO.bind ?_ (fun _ => ?_))
   | exact ih0 _ _ _ _
   | exact ih1 _ _ _ _ _ _ _ _ _ _ _
   | exact bellmanref10_Check.mono _ _
   | exact LeO.none _
   | refine LeO.ite ?_ ?_
   | refine LeO.bind ?_ (fun _ => ?_)
  ·intro y0 y1 y2 y3 y4 y5 y6 y7 y8 y9 y10
   unfold bellmanref10_Write.l1
   repeat' first
   | (with_reducible exact ih0 _ _ _ _)
   | (with_reducible exact ih1 _ _ _ _ _ _ _ _ _ _ _)
   | (with_reducible exact bellmanref10_Check.mono _ _)
   | (with_reducible exact LeO.refl _)
   | (with_reducible exact LeO.none _)
   | (with_reducible refine LeO.ite ?_ ?_)
   | (with_reducible refine LeO.bind ?_ (fun _ => ?_))
   | exact ih0 _ _ _ _
   | exact ih1 _ _ _ _ _ _ _ _ _ _ _
   | exact bellmanref10_Check.mono _ _
   | exact LeO.none _
   | refine LeO.ite ?_ ?_
   | refine LeO.bind ?_ (fun _ => ?_)
theorem bellmanref10_Write.mono : ∀ a0 k, LeO (bellmanref10_Write.f k a0) (bellmanref10_Write.f (k + 1) a0) := by
 intro a0 k
 obtain ⟨ih0, ih1⟩ := bellmanref10_Write.mono_l k
 unfold bellmanref10_Write.f
 repeat' first
   | (with_reducible exact ih0 _ _ _ _)
   | (with_reducible exact ih1 _ _ _ _ _ _ _ _ _ _ _)
   | (with_reducible exact bellmanref10_Check.mono _ _)
   | (with_reducible exact LeO.refl _)
   | (with_reducible exact LeO.none _)
   | (with_reducible refine LeO.ite ?_ ?_)
   | (with_reducible refine LeO.bind ?_ (fun _ => ?_))
   | exact ih0 _ _ _ _
   | exact ih1 _ _ _ _ _ _ _ _ _ _ _
   | exact bellmanref10_Check.mono _ _
   | exact LeO.none _
   | refine LeO.ite ?_ ?_
   | refine LeO.bind ?_ (fun _ => ?_)
set_option maxHeartbeats 8000000 in
set_option maxRecDepth 100000 in
theorem bellmanref10_Write.calls (k : Nat) (A0 : Option Addr) (c0 : Nat) (l0 : List (S40)) (r1 : ByteArray) (r2 : Int) (w : World) (hr0 : Kd.C k40 w A0 l0.length l0) (hc0 : l0.length ≤ c0) (h : bellmanref10_Write.f k l0 = some (r1, r2)) :
  Calls Tryd.prog 16 #[.slice A0 l0.length c0] w fun e w' => e = .returned (.tuple #[.string r1, .int .i64 r2]) ∧ Below w.heap.size w w' := by
 have hu40 := Tryd.underlying40
 have HR0 := Aside0.mk hr0
 have HC0 := Aside0.mk hc0
 clear hr0 hc0
 have HB := Aside0.mk (Below.refl w.heap.size w)
 have H : ((bellmanref10_Check.f k l0).bind fun t283 => (if t283 = 0 then (bellmanref10_Write.l0 k (⟨#[]⟩ : ByteArray) l0 (l0.length : Int) 0) else (some ((⟨#[]⟩ : ByteArray), 2)))) = some (r1, r2) := h
 clear h
 replace H := Option.bind_eq_some_iff.mp H
 obtain ⟨t283, A20, H⟩ := H
 replace H : (if t283 = 0 then (bellmanref10_Write.l0 k (⟨#[]⟩ : ByteArray) l0 (l0.length : Int) 0) else (some ((⟨#[]⟩ : ByteArray), 2))) = some (r1, r2) := H
 have A2 := Aside0.mk A20
 clear A20
 by_cases c3 : t283 = 0
 ·rw [if_pos c3] at H
  have c3b0 : (t283 == 0) = true := beq_iff_eq.mpr c3
  have c3b1 : (t283 != 0) = false := bne_eq_false_iff_eq.mpr c3
  clear c3
  have H' := Aside0.mk H
  clear H
  go_enter Tryd.func16, Tryd.ntmps16
  go_wp2_with (first | ((with_reducible refine gate_callee (f := 18) rfl ?_); refine goesL_ (some 11) rfl rfl Tryd.func18 (by kernel_rfl) rfl #[.slice A0 l0.length c0] rfl (by (try simp only [List.map_toArray, List.map_cons, List.map_nil]); first | done | rfl | (simp only [List.length_drop, List.length_take]; rfl)) ?_; (with_reducible refine (bellmanref10_Check.calls k _ _ l0 t283 _ ?side1 ?side2 A2.out).mono ?_); (case side1 => repeat (first | exact HR0.out | (with_reducible refine Kd.C_alloc ?_ _) | (with_reducible refine Kd.C_drewN ?_ _) | (with_reducible refine Kd.C_drew ?_))); (case side2 => exact HC0.out); rintro e w4 ⟨rfl, hb⟩; refine ⟨_, rfl, ?_⟩; have n0_ := Aside0.mk (below_step (by repeat (first | (with_reducible first | exact HB.out | apply below_alloc | apply pw_below_drewN | apply below_drew1) | exact HB.out)) hb); clear HB; have HB := n0_; clear n0_; (try clear hb); (try clear hb2); (try clear hk); (try clear hi)))
  go_loopg [4, 15] k (fun kq v4 v15 w' => ∃ (x4_1 : ByteArray) (x15_1 : Int), v4 = .string x4_1 ∧ v15 = .int .i64 x15_1 ∧ Aside0 (bellmanref10_Write.l0 kq x4_1 l0 (l0.length : Int) x15_1 = some (r1, r2)) ∧ Aside0 (kq ≤ k) ∧ Aside0 (Below w.heap.size w w'))
  case atStart => exact ⟨((⟨#[]⟩ : ByteArray)), (0), (by first | rfl | (simp; done) | (simp [*]; done)), (by first | rfl | (simp; done) | (simp [*]; done)), H', ⟨Nat.le_refl _⟩, ⟨by repeat (first | (with_reducible first | exact HB.out | apply below_alloc | apply pw_below_drewN | apply below_drew1) | exact HB.out)⟩⟩
  case round =>
   clear H'
   try clear c1
   try clear p2
   try clear c3
   try clear c3b0
   try clear c3b1
   obtain ⟨x4_1, x15_1, rfl, rfl, HA, HK1, HB⟩ := hrel
   cases gk with
   | zero => exact absurd HA.out (by simp [bellmanref10_Write.l0])
   | succ k1 =>
    have H := HA.out
    clear HA
    simp only [bellmanref10_Write.l0] at H
    by_cases c5 : x15_1 < (l0.length : Int)
    ·rw [if_pos c5] at H
     have c5b0 : decide (x15_1 < (l0.length : Int)) = true := decide_eq_true c5
     clear c5
     by_cases c6 : 0 ≤ x15_1
     ·rw [if_pos c6] at H
      have c6b0 : decide (0 ≤ x15_1) = true := decide_eq_true c6
      clear c6
      by_cases c7 : x15_1 < (l0.length : Int)
      ·rw [if_pos c7] at H
       have c7b0 : decide (x15_1 < (l0.length : Int)) = true := decide_eq_true c7
       clear c7
       by_cases c8 : ((rd_T40 l0 x15_1).f0) = 1
       ·rw [if_pos c8] at H
        have c8b0 : (((rd_T40 l0 x15_1).f0) == 1) = true := beq_iff_eq.mpr c8
        have c8b1 : (((rd_T40 l0 x15_1).f0) != 1) = false := bne_eq_false_iff_eq.mpr c8
        clear c8
        by_cases c9 : x4_1.size + ((rd_T40 l0 x15_1).f1).size ≤ 9223372036854775807
        ·rw [if_pos c9] at H
         have c9b0 := eq_true c9
         have c9b1 : decide (x4_1.size + ((rd_T40 l0 x15_1).f1).size ≤ 9223372036854775807) = true := decide_eq_true c9
         try have c9b2 : (9223372036854775807 < x4_1.size + ((rd_T40 l0 x15_1).f1).size) = False := eq_false (Nat.not_lt.2 c9)
         have H' := Aside0.mk H
         clear H
         have p284 : 0 ≤ (x15_1 : Int) := of_decide_eq_true (by first | (with_reducible assumption) | assumption)
         have q284 : x15_1 < (l0.length : Int) := of_decide_eq_true (by first | (with_reducible assumption) | assumption)
         obtain ⟨ad284, A284_2, c284_2, e284, hx284_0, hx284_1, hx284_2, hl284_2, hi284_2⟩ := at_T40 HR0.out x15_1 p284 q284
         cases e284
         replace hx284_0 := (HB.out.cell (World.block_lt_of_cell? w _ hx284_0)).trans hx284_0
         replace hx284_1 := (HB.out.cell (World.block_lt_of_cell? w _ hx284_1)).trans hx284_1
         replace hx284_2 := (HB.out.cell (World.block_lt_of_cell? w _ hx284_2)).trans hx284_2
         have HR284_2 := Aside0.mk hi284_2
         have HC284_2 := Aside0.mk hl284_2
         clear hi284_2 hl284_2
         replace p284 := eq_true p284
         replace q284 := eq_true q284
         go_wp2_with (first | ((with_reducible refine gate_dst (N := 6) rfl ?_); refine box_event ?hg (N := 6) ?hd (cs := #[.int .u8 0, .string (⟨#[]⟩ : ByteArray), .slice none 0 0]) (t := 40) ?hr ?_; (case hd => rfl); (case hg => rfl); (case hr => first | (go_simp; done) | (go_simp; rfl)); intro gb285 hg w10 hbox hb; have n0_ := Aside0.mk (below_step (by repeat (first | (with_reducible first | exact HB.out | apply below_alloc | apply pw_below_drewN | apply below_drew1) | exact HB.out)) hb); have n1_ := Aside0.mk (hbox); have n2_ := Aside0.mk ((by rw [hg]; exact (below_size (by repeat (first | (with_reducible first | exact HB.out | apply below_alloc | apply pw_below_drewN | apply below_drew1) | exact HB.out))) : w.heap.size ≤ gb285)); have n3_ := Aside0.mk ((by rw [hg]; exact (below_size (by repeat (first | (with_reducible first | exact HB.out | apply below_alloc | apply pw_below_drewN | apply below_drew1) | exact HB.out))) : w.heap.size ≤ gb285)); clear HB; have HB := n0_; have BK285 := n1_; have GW285 := n2_; have GE285 := n3_; clear n0_ n1_ n2_ n3_; clear hb hbox hg; have hcz11_0 : w10.cell? ⟨gb285, 0, none⟩ = some (.int .u8 0) := (blk_cell BK285.out 0).trans rfl; have hcz11_1 : w10.cell? ⟨gb285, 1, none⟩ = some (.string (⟨#[]⟩ : ByteArray)) := (blk_cell BK285.out 1).trans rfl; have hcz11_2 : w10.cell? ⟨gb285, 2, none⟩ = some (.slice none 0 0) := (blk_cell BK285.out 2).trans rfl; have hfz11_0 := blk_frozen BK285.out 0; have hfz11_1 := blk_frozen BK285.out 1; have hfz11_2 := blk_frozen BK285.out 2))
         go_roundg k1
         case measure => have := HK1.out; omega
         case rel => exact ⟨(x4_1 ++ ((rd_T40 l0 x15_1).f1)), (wrap64 (x15_1 + 1)), (by first | rfl | (simp; done) | (simp [*]; done)), (by first | rfl | (simp; done) | (simp [*]; done)), H', ⟨by have := HK1.out; omega⟩, ⟨by repeat (first | (with_reducible first | exact HB.out | apply below_alloc | apply pw_below_drewN | apply below_drew1 | refine below_set ?_ GE285.out) | exact HB.out)⟩⟩
        ·rw [if_neg c9] at H
         exact absurd H (by simp)
       ·rw [if_neg c8] at H
        have c8b0 : (((rd_T40 l0 x15_1).f0) == 1) = false := beq_eq_false_iff_ne.mpr c8
        have c8b1 : (((rd_T40 l0 x15_1).f0) != 1) = true := bne_iff_ne.mpr c8
        have H' := Aside0.mk H
        clear H
        have p284 : 0 ≤ (x15_1 : Int) := of_decide_eq_true (by first | (with_reducible assumption) | assumption)
        have q284 : x15_1 < (l0.length : Int) := of_decide_eq_true (by first | (with_reducible assumption) | assumption)
        obtain ⟨ad284, A284_2, c284_2, e284, hx284_0, hx284_1, hx284_2, hl284_2, hi284_2⟩ := at_T40 HR0.out x15_1 p284 q284
        cases e284
        replace hx284_0 := (HB.out.cell (World.block_lt_of_cell? w _ hx284_0)).trans hx284_0
        replace hx284_1 := (HB.out.cell (World.block_lt_of_cell? w _ hx284_1)).trans hx284_1
        replace hx284_2 := (HB.out.cell (World.block_lt_of_cell? w _ hx284_2)).trans hx284_2
        have HR284_2 := Aside0.mk hi284_2
        have HC284_2 := Aside0.mk hl284_2
        clear hi284_2 hl284_2
        replace p284 := eq_true p284
        replace q284 := eq_true q284
        go_wp2_with (first | ((with_reducible refine gate_dst (N := 6) rfl ?_); refine box_event ?hg (N := 6) ?hd (cs := #[.int .u8 0, .string (⟨#[]⟩ : ByteArray), .slice none 0 0]) (t := 40) ?hr ?_; (case hd => rfl); (case hg => rfl); (case hr => first | (go_simp; done) | (go_simp; rfl)); intro gb285 hg w12 hbox hb; have n0_ := Aside0.mk (below_step (by repeat (first | (with_reducible first | exact HB.out | apply below_alloc | apply pw_below_drewN | apply below_drew1) | exact HB.out)) hb); have n1_ := Aside0.mk (hbox); have n2_ := Aside0.mk ((by rw [hg]; exact (below_size (by repeat (first | (with_reducible first | exact HB.out | apply below_alloc | apply pw_below_drewN | apply below_drew1) | exact HB.out))) : w.heap.size ≤ gb285)); have n3_ := Aside0.mk ((by rw [hg]; exact (below_size (by repeat (first | (with_reducible first | exact HB.out | apply below_alloc | apply pw_below_drewN | apply below_drew1) | exact HB.out))) : w.heap.size ≤ gb285)); clear HB; have HB := n0_; have BK285 := n1_; have GW285 := n2_; have GE285 := n3_; clear n0_ n1_ n2_ n3_; clear hb hbox hg; have hcz13_0 : w12.cell? ⟨gb285, 0, none⟩ = some (.int .u8 0) := (blk_cell BK285.out 0).trans rfl; have hcz13_1 : w12.cell? ⟨gb285, 1, none⟩ = some (.string (⟨#[]⟩ : ByteArray)) := (blk_cell BK285.out 1).trans rfl; have hcz13_2 : w12.cell? ⟨gb285, 2, none⟩ = some (.slice none 0 0) := (blk_cell BK285.out 2).trans rfl; have hfz13_0 := blk_frozen BK285.out 0; have hfz13_1 := blk_frozen BK285.out 1; have hfz13_2 := blk_frozen BK285.out 2))
        go_loopg [7, 29] k1 (fun kq v7 v29 w' => ∃ (x7_2 : ByteArray) (x29_2 : Int), v7 = .string x7_2 ∧ v29 = .int .i64 x29_2 ∧ Aside0 (bellmanref10_Write.l1 kq x4_1 x7_2 l0 (l0.length : Int) x15_1 ((rd_T40 l0 x15_1).f2) (((rd_T40 l0 x15_1).f2).length : Int) x29_2 ((rd_T40 l0 x15_1).f0) ((rd_T40 l0 x15_1).f1) ((rd_T40 l0 x15_1).f2) = some (r1, r2)) ∧ Aside0 (kq ≤ k1) ∧ Aside0 (w'.heap[gb285]? = some (.cells #[.int .u8 ((rd_T40 l0 x15_1).f0), .string ((rd_T40 l0 x15_1).f1), (.slice A284_2 ((rd_T40 l0 x15_1).f2).length c284_2)] 40 (0, 0))) ∧ Aside0 (Below w.heap.size w w'))
        case atStart => exact ⟨((⟨#[]⟩ : ByteArray)), (0), (by first | rfl | (simp; done) | (simp [*]; done)), (by first | rfl | (simp; done) | (simp [*]; done)), H', ⟨Nat.le_refl _⟩, ⟨by (with_reducible repeat (first | refine blk_drewN ?_ _ | refine blk_drew ?_ | refine blk_alloc ?_ _)); refine blk_put (cs := #[.int .u8 ((rd_T40 l0 x15_1).f0), .string ((rd_T40 l0 x15_1).f1), .slice none 0 0]) ?_ 2 _ rfl; (with_reducible repeat (first | refine blk_drewN ?_ _ | refine blk_drew ?_ | refine blk_alloc ?_ _)); refine blk_put (cs := #[.int .u8 ((rd_T40 l0 x15_1).f0), .string (⟨#[]⟩ : ByteArray), .slice none 0 0]) ?_ 1 _ rfl; (with_reducible repeat (first | refine blk_drewN ?_ _ | refine blk_drew ?_ | refine blk_alloc ?_ _)); refine blk_put (cs := #[.int .u8 0, .string (⟨#[]⟩ : ByteArray), .slice none 0 0]) ?_ 0 _ rfl; (with_reducible repeat (first | refine blk_drewN ?_ _ | refine blk_drew ?_ | refine blk_alloc ?_ _)); exact BK285.out⟩, ⟨by repeat (first | (with_reducible first | exact HB.out | apply below_alloc | apply pw_below_drewN | apply below_drew1 | refine below_set ?_ GE285.out) | exact HB.out)⟩⟩
        case round =>
         clear H'
         try clear c1
         try clear c2
         try clear p2
         try clear q2
         try clear hx2
         try clear c3
         try clear c3b0
         try clear c3b1
         try clear c5
         try clear c5b0
         try clear c6
         try clear c6b0
         try clear p6
         try clear c7
         try clear c7b0
         try clear c8
         try clear c8b0
         try clear c8b1
         try clear c9
         try clear c9b0
         try clear c9b1
         try clear c9b2
         try clear hcz11_0
         try clear hcz11_1
         try clear hcz11_2
         try clear hcz13_0
         try clear hcz13_1
         try clear hcz13_2
         try clear hfz11_0
         try clear hfz11_1
         try clear hfz11_2
         try clear hfz13_0
         try clear hfz13_1
         try clear hfz13_2
         try clear hx284_0
         try clear hx284_1
         try clear hx284_2
         try clear p2
         try clear p284
         try clear q284
         obtain ⟨x7_2, x29_2, rfl, rfl, HA, HK2, BK285, HB⟩ := hrel
         cases gk with
         | zero => exact absurd HA.out (by simp [bellmanref10_Write.l1])
         | succ k2 =>
          have H := HA.out
          clear HA
          simp only [bellmanref10_Write.l1] at H
          by_cases c14 : x29_2 < (((rd_T40 l0 x15_1).f2).length : Int)
          ·rw [if_pos c14] at H
           have c14b0 : decide (x29_2 < (((rd_T40 l0 x15_1).f2).length : Int)) = true := decide_eq_true c14
           clear c14
           by_cases c15 : 0 ≤ x29_2
           ·rw [if_pos c15] at H
            have c15b0 : decide (0 ≤ x29_2) = true := decide_eq_true c15
            clear c15
            by_cases c16 : x29_2 < (((rd_T40 l0 x15_1).f2).length : Int)
            ·rw [if_pos c16] at H
             have c16b0 : decide (x29_2 < (((rd_T40 l0 x15_1).f2).length : Int)) = true := decide_eq_true c16
             clear c16
             by_cases c17 : x29_2 > 0
             ·rw [if_pos c17] at H
              have c17b0 : decide (0 < x29_2) = true := decide_eq_true c17
              clear c17
              by_cases c18 : x7_2.size + 1 ≤ 9223372036854775807
              ·rw [if_pos c18] at H
               have c18b0 := eq_true c18
               have c18b1 : decide (x7_2.size + 1 ≤ 9223372036854775807) = true := decide_eq_true c18
               try have c18b2 : (9223372036854775807 < x7_2.size + 1) = False := eq_false (Nat.not_lt.2 c18)
               by_cases c19 : (x7_2 ++ (⟨#[46]⟩ : ByteArray)).size + (rdOf ByteArray.empty ((rd_T40 l0 x15_1).f2) x29_2).size ≤ 9223372036854775807
               ·rw [if_pos c19] at H
                have c19b0 := eq_true c19
                have c19b1 : decide ((x7_2 ++ (⟨#[46]⟩ : ByteArray)).size + (rdOf ByteArray.empty ((rd_T40 l0 x15_1).f2) x29_2).size ≤ 9223372036854775807) = true := decide_eq_true c19
                try have c19b2 : (9223372036854775807 < (x7_2 ++ (⟨#[46]⟩ : ByteArray)).size + (rdOf ByteArray.empty ((rd_T40 l0 x15_1).f2) x29_2).size) = False := eq_false (Nat.not_lt.2 c19)
                try have c19b3 : (9223372036854775807 < (x7_2.size + 1) + (rdOf ByteArray.empty ((rd_T40 l0 x15_1).f2) x29_2).size) = False := eq_false (Nat.not_lt.2 (by have h_ := c19; simp only [ByteArray.size_append] at h_; exact h_))
                have H' := Aside0.mk H
                clear H
                have p286 : 0 ≤ (x29_2 : Int) := of_decide_eq_true (by first | (with_reducible assumption) | assumption)
                have q286 : x29_2 < (((rd_T40 l0 x15_1).f2).length : Int) := of_decide_eq_true (by first | (with_reducible assumption) | assumption)
                obtain ⟨ad286, e286, hx286_0⟩ := Kd.at_string HR284_2.out x29_2 p286 q286
                cases e286
                replace hx286_0 := (HB.out.cell (World.block_lt_of_cell? w _ hx286_0)).trans hx286_0
                replace p286 := eq_true p286
                replace q286 := eq_true q286
                go_wp2
                go_roundg k2
                case measure => have := HK1.out; have := HK2.out; omega
                case rel => exact ⟨((x7_2 ++ (⟨#[46]⟩ : ByteArray)) ++ (rdOf ByteArray.empty ((rd_T40 l0 x15_1).f2) x29_2)), (wrap64 (x29_2 + 1)), (by first | rfl | (simp; done) | (simp [*]; done)), (by first | rfl | (simp; done) | (simp [*]; done)), H', ⟨by have := HK1.out; have := HK2.out; omega⟩, ⟨by (with_reducible repeat (first | refine blk_drewN ?_ _ | refine blk_drew ?_ | refine blk_alloc ?_ _)); exact BK285.out⟩, ⟨by repeat (first | (with_reducible first | exact HB.out | apply below_alloc | apply pw_below_drewN | apply below_drew1 | refine below_set ?_ GE285.out) | exact HB.out)⟩⟩
               ·rw [if_neg c19] at H
                exact absurd H (by simp)
              ·rw [if_neg c18] at H
               exact absurd H (by simp)
             ·rw [if_neg c17] at H
              have c17b0 : decide (0 < x29_2) = false := decide_eq_false c17
              clear c17
              by_cases c20 : x7_2.size + (rdOf ByteArray.empty ((rd_T40 l0 x15_1).f2) x29_2).size ≤ 9223372036854775807
              ·rw [if_pos c20] at H
               have c20b0 := eq_true c20
               have c20b1 : decide (x7_2.size + (rdOf ByteArray.empty ((rd_T40 l0 x15_1).f2) x29_2).size ≤ 9223372036854775807) = true := decide_eq_true c20
               try have c20b2 : (9223372036854775807 < x7_2.size + (rdOf ByteArray.empty ((rd_T40 l0 x15_1).f2) x29_2).size) = False := eq_false (Nat.not_lt.2 c20)
               have H' := Aside0.mk H
               clear H
               have p286 : 0 ≤ (x29_2 : Int) := of_decide_eq_true (by first | (with_reducible assumption) | assumption)
               have q286 : x29_2 < (((rd_T40 l0 x15_1).f2).length : Int) := of_decide_eq_true (by first | (with_reducible assumption) | assumption)
               obtain ⟨ad286, e286, hx286_0⟩ := Kd.at_string HR284_2.out x29_2 p286 q286
               cases e286
               replace hx286_0 := (HB.out.cell (World.block_lt_of_cell? w _ hx286_0)).trans hx286_0
               replace p286 := eq_true p286
               replace q286 := eq_true q286
               go_wp2
               go_roundg k2
               case measure => have := HK1.out; have := HK2.out; omega
               case rel => exact ⟨(x7_2 ++ (rdOf ByteArray.empty ((rd_T40 l0 x15_1).f2) x29_2)), (wrap64 (x29_2 + 1)), (by first | rfl | (simp; done) | (simp [*]; done)), (by first | rfl | (simp; done) | (simp [*]; done)), H', ⟨by have := HK1.out; have := HK2.out; omega⟩, ⟨by (with_reducible repeat (first | refine blk_drewN ?_ _ | refine blk_drew ?_ | refine blk_alloc ?_ _)); exact BK285.out⟩, ⟨by repeat (first | (with_reducible first | exact HB.out | apply below_alloc | apply pw_below_drewN | apply below_drew1 | refine below_set ?_ GE285.out) | exact HB.out)⟩⟩
              ·rw [if_neg c20] at H
               exact absurd H (by simp)
            ·rw [if_neg c16] at H
             exact absurd H (by simp)
           ·rw [if_neg c15] at H
            exact absurd H (by simp)
          ·rw [if_neg c14] at H
           have c14b0 : decide (x29_2 < (((rd_T40 l0 x15_1).f2).length : Int)) = false := decide_eq_false c14
           clear c14
           by_cases c21 : ((rd_T40 l0 x15_1).f0) = 3
           ·rw [if_pos c21] at H
            have c21b0 : (((rd_T40 l0 x15_1).f0) == 3) = true := beq_iff_eq.mpr c21
            have c21b1 : (((rd_T40 l0 x15_1).f0) != 3) = false := bne_eq_false_iff_eq.mpr c21
            clear c21
            by_cases c22 : 3 + x7_2.size ≤ 9223372036854775807
            ·rw [if_pos c22] at H
             have c22b0 := eq_true c22
             have c22b1 : decide (3 + x7_2.size ≤ 9223372036854775807) = true := decide_eq_true c22
             try have c22b2 : (9223372036854775807 < 3 + x7_2.size) = False := eq_false (Nat.not_lt.2 c22)
             by_cases c23 : 2 + ((⟨#[105, 102, 32]⟩ : ByteArray) ++ x7_2).size ≤ 9223372036854775807
             ·rw [if_pos c23] at H
              have c23b0 := eq_true c23
              have c23b1 : decide (2 + ((⟨#[105, 102, 32]⟩ : ByteArray) ++ x7_2).size ≤ 9223372036854775807) = true := decide_eq_true c23
              try have c23b2 : (9223372036854775807 < 2 + ((⟨#[105, 102, 32]⟩ : ByteArray) ++ x7_2).size) = False := eq_false (Nat.not_lt.2 c23)
              try have c23b3 : (9223372036854775807 < 2 + (3 + x7_2.size)) = False := eq_false (Nat.not_lt.2 (by have h_ := c23; simp only [ByteArray.size_append] at h_; exact h_))
              by_cases c24 : ((⟨#[123, 123]⟩ : ByteArray) ++ ((⟨#[105, 102, 32]⟩ : ByteArray) ++ x7_2)).size + 2 ≤ 9223372036854775807
              ·rw [if_pos c24] at H
               have c24b0 := eq_true c24
               have c24b1 : decide (((⟨#[123, 123]⟩ : ByteArray) ++ ((⟨#[105, 102, 32]⟩ : ByteArray) ++ x7_2)).size + 2 ≤ 9223372036854775807) = true := decide_eq_true c24
               try have c24b2 : (9223372036854775807 < ((⟨#[123, 123]⟩ : ByteArray) ++ ((⟨#[105, 102, 32]⟩ : ByteArray) ++ x7_2)).size + 2) = False := eq_false (Nat.not_lt.2 c24)
               try have c24b3 : (9223372036854775807 < (2 + (3 + x7_2.size)) + 2) = False := eq_false (Nat.not_lt.2 (by have h_ := c24; simp only [ByteArray.size_append] at h_; exact h_))
               by_cases c25 : x4_1.size + (((⟨#[123, 123]⟩ : ByteArray) ++ ((⟨#[105, 102, 32]⟩ : ByteArray) ++ x7_2)) ++ (⟨#[125, 125]⟩ : ByteArray)).size ≤ 9223372036854775807
               ·rw [if_pos c25] at H
                have c25b0 := eq_true c25
                have c25b1 : decide (x4_1.size + (((⟨#[123, 123]⟩ : ByteArray) ++ ((⟨#[105, 102, 32]⟩ : ByteArray) ++ x7_2)) ++ (⟨#[125, 125]⟩ : ByteArray)).size ≤ 9223372036854775807) = true := decide_eq_true c25
                try have c25b2 : (9223372036854775807 < x4_1.size + (((⟨#[123, 123]⟩ : ByteArray) ++ ((⟨#[105, 102, 32]⟩ : ByteArray) ++ x7_2)) ++ (⟨#[125, 125]⟩ : ByteArray)).size) = False := eq_false (Nat.not_lt.2 c25)
                try have c25b3 : (9223372036854775807 < x4_1.size + ((2 + (3 + x7_2.size)) + 2)) = False := eq_false (Nat.not_lt.2 (by have h_ := c25; simp only [ByteArray.size_append] at h_; exact h_))
                have H' := Aside0.mk H
                clear H
                have hcz26_0 : wr.cell? ⟨gb285, 0, none⟩ = some (.int .u8 ((rd_T40 l0 x15_1).f0)) := (blk_cell BK285.out 0).trans rfl
                have hcz26_1 : wr.cell? ⟨gb285, 1, none⟩ = some (.string ((rd_T40 l0 x15_1).f1)) := (blk_cell BK285.out 1).trans rfl
                have hcz26_2 : wr.cell? ⟨gb285, 2, none⟩ = some (.slice A284_2 ((rd_T40 l0 x15_1).f2).length c284_2) := (blk_cell BK285.out 2).trans rfl
                have hfz26_0 := blk_frozen BK285.out 0
                have hfz26_1 := blk_frozen BK285.out 1
                have hfz26_2 := blk_frozen BK285.out 2
                go_wp2
                go_roundg k2
                case measure => have := HK1.out; have := HK2.out; omega
                case rel => exact ⟨(x4_1 ++ (((⟨#[123, 123]⟩ : ByteArray) ++ ((⟨#[105, 102, 32]⟩ : ByteArray) ++ x7_2)) ++ (⟨#[125, 125]⟩ : ByteArray))), (wrap64 (x15_1 + 1)), (by first | rfl | (simp; done) | (simp [*]; done)), (by first | rfl | (simp; done) | (simp [*]; done)), H', ⟨by have := HK1.out; have := HK2.out; omega⟩, ⟨by repeat (first | (with_reducible first | exact HB.out | apply below_alloc | apply pw_below_drewN | apply below_drew1 | refine below_set ?_ GE285.out) | exact HB.out)⟩⟩
               ·rw [if_neg c25] at H
                exact absurd H (by simp)
              ·rw [if_neg c24] at H
               exact absurd H (by simp)
             ·rw [if_neg c23] at H
              exact absurd H (by simp)
            ·rw [if_neg c22] at H
             exact absurd H (by simp)
           ·rw [if_neg c21] at H
            have c21b0 : (((rd_T40 l0 x15_1).f0) == 3) = false := beq_eq_false_iff_ne.mpr c21
            have c21b1 : (((rd_T40 l0 x15_1).f0) != 3) = true := bne_iff_ne.mpr c21
            by_cases c27 : ((rd_T40 l0 x15_1).f0) = 5
            ·rw [if_pos c27] at H
             have c27b0 : (((rd_T40 l0 x15_1).f0) == 5) = true := beq_iff_eq.mpr c27
             have c27b1 : (((rd_T40 l0 x15_1).f0) != 5) = false := bne_eq_false_iff_eq.mpr c27
             clear c27
             by_cases c28 : 5 + x7_2.size ≤ 9223372036854775807
             ·rw [if_pos c28] at H
              have c28b0 := eq_true c28
              have c28b1 : decide (5 + x7_2.size ≤ 9223372036854775807) = true := decide_eq_true c28
              try have c28b2 : (9223372036854775807 < 5 + x7_2.size) = False := eq_false (Nat.not_lt.2 c28)
              by_cases c29 : 2 + ((⟨#[101, 97, 99, 104, 32]⟩ : ByteArray) ++ x7_2).size ≤ 9223372036854775807
              ·rw [if_pos c29] at H
               have c29b0 := eq_true c29
               have c29b1 : decide (2 + ((⟨#[101, 97, 99, 104, 32]⟩ : ByteArray) ++ x7_2).size ≤ 9223372036854775807) = true := decide_eq_true c29
               try have c29b2 : (9223372036854775807 < 2 + ((⟨#[101, 97, 99, 104, 32]⟩ : ByteArray) ++ x7_2).size) = False := eq_false (Nat.not_lt.2 c29)
               try have c29b3 : (9223372036854775807 < 2 + (5 + x7_2.size)) = False := eq_false (Nat.not_lt.2 (by have h_ := c29; simp only [ByteArray.size_append] at h_; exact h_))
               by_cases c30 : ((⟨#[123, 123]⟩ : ByteArray) ++ ((⟨#[101, 97, 99, 104, 32]⟩ : ByteArray) ++ x7_2)).size + 2 ≤ 9223372036854775807
               ·rw [if_pos c30] at H
                have c30b0 := eq_true c30
                have c30b1 : decide (((⟨#[123, 123]⟩ : ByteArray) ++ ((⟨#[101, 97, 99, 104, 32]⟩ : ByteArray) ++ x7_2)).size + 2 ≤ 9223372036854775807) = true := decide_eq_true c30
                try have c30b2 : (9223372036854775807 < ((⟨#[123, 123]⟩ : ByteArray) ++ ((⟨#[101, 97, 99, 104, 32]⟩ : ByteArray) ++ x7_2)).size + 2) = False := eq_false (Nat.not_lt.2 c30)
                try have c30b3 : (9223372036854775807 < (2 + (5 + x7_2.size)) + 2) = False := eq_false (Nat.not_lt.2 (by have h_ := c30; simp only [ByteArray.size_append] at h_; exact h_))
                by_cases c31 : x4_1.size + (((⟨#[123, 123]⟩ : ByteArray) ++ ((⟨#[101, 97, 99, 104, 32]⟩ : ByteArray) ++ x7_2)) ++ (⟨#[125, 125]⟩ : ByteArray)).size ≤ 9223372036854775807
                ·rw [if_pos c31] at H
                 have c31b0 := eq_true c31
                 have c31b1 : decide (x4_1.size + (((⟨#[123, 123]⟩ : ByteArray) ++ ((⟨#[101, 97, 99, 104, 32]⟩ : ByteArray) ++ x7_2)) ++ (⟨#[125, 125]⟩ : ByteArray)).size ≤ 9223372036854775807) = true := decide_eq_true c31
                 try have c31b2 : (9223372036854775807 < x4_1.size + (((⟨#[123, 123]⟩ : ByteArray) ++ ((⟨#[101, 97, 99, 104, 32]⟩ : ByteArray) ++ x7_2)) ++ (⟨#[125, 125]⟩ : ByteArray)).size) = False := eq_false (Nat.not_lt.2 c31)
                 try have c31b3 : (9223372036854775807 < x4_1.size + ((2 + (5 + x7_2.size)) + 2)) = False := eq_false (Nat.not_lt.2 (by have h_ := c31; simp only [ByteArray.size_append] at h_; exact h_))
                 have H' := Aside0.mk H
                 clear H
                 have hcz32_0 : wr.cell? ⟨gb285, 0, none⟩ = some (.int .u8 ((rd_T40 l0 x15_1).f0)) := (blk_cell BK285.out 0).trans rfl
                 have hcz32_1 : wr.cell? ⟨gb285, 1, none⟩ = some (.string ((rd_T40 l0 x15_1).f1)) := (blk_cell BK285.out 1).trans rfl
                 have hcz32_2 : wr.cell? ⟨gb285, 2, none⟩ = some (.slice A284_2 ((rd_T40 l0 x15_1).f2).length c284_2) := (blk_cell BK285.out 2).trans rfl
                 have hfz32_0 := blk_frozen BK285.out 0
                 have hfz32_1 := blk_frozen BK285.out 1
                 have hfz32_2 := blk_frozen BK285.out 2
                 go_wp2
                 go_roundg k2
                 case measure => have := HK1.out; have := HK2.out; omega
                 case rel => exact ⟨(x4_1 ++ (((⟨#[123, 123]⟩ : ByteArray) ++ ((⟨#[101, 97, 99, 104, 32]⟩ : ByteArray) ++ x7_2)) ++ (⟨#[125, 125]⟩ : ByteArray))), (wrap64 (x15_1 + 1)), (by first | rfl | (simp; done) | (simp [*]; done)), (by first | rfl | (simp; done) | (simp [*]; done)), H', ⟨by have := HK1.out; have := HK2.out; omega⟩, ⟨by repeat (first | (with_reducible first | exact HB.out | apply below_alloc | apply pw_below_drewN | apply below_drew1 | refine below_set ?_ GE285.out) | exact HB.out)⟩⟩
                ·rw [if_neg c31] at H
                 exact absurd H (by simp)
               ·rw [if_neg c30] at H
                exact absurd H (by simp)
              ·rw [if_neg c29] at H
               exact absurd H (by simp)
             ·rw [if_neg c28] at H
              exact absurd H (by simp)
            ·rw [if_neg c27] at H
             have c27b0 : (((rd_T40 l0 x15_1).f0) == 5) = false := beq_eq_false_iff_ne.mpr c27
             have c27b1 : (((rd_T40 l0 x15_1).f0) != 5) = true := bne_iff_ne.mpr c27
             by_cases c33 : ((rd_T40 l0 x15_1).f0) = 4
             ·rw [if_pos c33] at H
              have c33b0 : (((rd_T40 l0 x15_1).f0) == 4) = true := beq_iff_eq.mpr c33
              have c33b1 : (((rd_T40 l0 x15_1).f0) != 4) = false := bne_eq_false_iff_eq.mpr c33
              clear c33
              by_cases c34 : 2 + 4 ≤ 9223372036854775807
              ·rw [if_pos c34] at H
               have c34b0 := eq_true c34
               have c34b1 : decide (2 + 4 ≤ 9223372036854775807) = true := decide_eq_true c34
               try have c34b2 : (9223372036854775807 < 2 + 4) = False := eq_false (Nat.not_lt.2 c34)
               by_cases c35 : 5 + 2 ≤ 9223372036854775807
               ·rw [if_pos c35] at H
                have c35b0 := eq_true c35
                have c35b1 : decide (5 + 2 ≤ 9223372036854775807) = true := decide_eq_true c35
                try have c35b2 : (9223372036854775807 < 5 + 2) = False := eq_false (Nat.not_lt.2 c35)
                by_cases c36 : x4_1.size + (((⟨#[123, 123]⟩ : ByteArray) ++ (⟨#[101, 108, 115, 101]⟩ : ByteArray)) ++ (⟨#[125, 125]⟩ : ByteArray)).size ≤ 9223372036854775807
                ·rw [if_pos c36] at H
                 have c36b0 := eq_true c36
                 have c36b1 : decide (x4_1.size + (((⟨#[123, 123]⟩ : ByteArray) ++ (⟨#[101, 108, 115, 101]⟩ : ByteArray)) ++ (⟨#[125, 125]⟩ : ByteArray)).size ≤ 9223372036854775807) = true := decide_eq_true c36
                 try have c36b2 : (9223372036854775807 < x4_1.size + (((⟨#[123, 123]⟩ : ByteArray) ++ (⟨#[101, 108, 115, 101]⟩ : ByteArray)) ++ (⟨#[125, 125]⟩ : ByteArray)).size) = False := eq_false (Nat.not_lt.2 c36)
                 try have c36b3 : (9223372036854775807 < x4_1.size + ((2 + 4) + 2)) = False := eq_false (Nat.not_lt.2 (by have h_ := c36; simp only [ByteArray.size_append] at h_; exact h_))
                 have H' := Aside0.mk H
                 clear H
                 have hcz37_0 : wr.cell? ⟨gb285, 0, none⟩ = some (.int .u8 ((rd_T40 l0 x15_1).f0)) := (blk_cell BK285.out 0).trans rfl
                 have hcz37_1 : wr.cell? ⟨gb285, 1, none⟩ = some (.string ((rd_T40 l0 x15_1).f1)) := (blk_cell BK285.out 1).trans rfl
                 have hcz37_2 : wr.cell? ⟨gb285, 2, none⟩ = some (.slice A284_2 ((rd_T40 l0 x15_1).f2).length c284_2) := (blk_cell BK285.out 2).trans rfl
                 have hfz37_0 := blk_frozen BK285.out 0
                 have hfz37_1 := blk_frozen BK285.out 1
                 have hfz37_2 := blk_frozen BK285.out 2
                 go_wp2
                 go_roundg k2
                 case measure => have := HK1.out; have := HK2.out; omega
                 case rel => exact ⟨(x4_1 ++ (((⟨#[123, 123]⟩ : ByteArray) ++ (⟨#[101, 108, 115, 101]⟩ : ByteArray)) ++ (⟨#[125, 125]⟩ : ByteArray))), (wrap64 (x15_1 + 1)), (by first | rfl | (simp; done) | (simp [*]; done)), (by first | rfl | (simp; done) | (simp [*]; done)), H', ⟨by have := HK1.out; have := HK2.out; omega⟩, ⟨by repeat (first | (with_reducible first | exact HB.out | apply below_alloc | apply pw_below_drewN | apply below_drew1 | refine below_set ?_ GE285.out) | exact HB.out)⟩⟩
                ·rw [if_neg c36] at H
                 exact absurd H (by simp)
               ·rw [if_neg c35] at H
                exact absurd H (by simp)
              ·rw [if_neg c34] at H
               exact absurd H (by simp)
             ·rw [if_neg c33] at H
              have c33b0 : (((rd_T40 l0 x15_1).f0) == 4) = false := beq_eq_false_iff_ne.mpr c33
              have c33b1 : (((rd_T40 l0 x15_1).f0) != 4) = true := bne_iff_ne.mpr c33
              by_cases c38 : ((rd_T40 l0 x15_1).f0) = 6
              ·rw [if_pos c38] at H
               have c38b0 : (((rd_T40 l0 x15_1).f0) == 6) = true := beq_iff_eq.mpr c38
               have c38b1 : (((rd_T40 l0 x15_1).f0) != 6) = false := bne_eq_false_iff_eq.mpr c38
               clear c38
               by_cases c39 : 2 + 3 ≤ 9223372036854775807
               ·rw [if_pos c39] at H
                have c39b0 := eq_true c39
                have c39b1 : decide (2 + 3 ≤ 9223372036854775807) = true := decide_eq_true c39
                try have c39b2 : (9223372036854775807 < 2 + 3) = False := eq_false (Nat.not_lt.2 c39)
                by_cases c40 : 4 + 2 ≤ 9223372036854775807
                ·rw [if_pos c40] at H
                 have c40b0 := eq_true c40
                 have c40b1 : decide (4 + 2 ≤ 9223372036854775807) = true := decide_eq_true c40
                 try have c40b2 : (9223372036854775807 < 4 + 2) = False := eq_false (Nat.not_lt.2 c40)
                 by_cases c41 : x4_1.size + (((⟨#[123, 123]⟩ : ByteArray) ++ (⟨#[101, 110, 100]⟩ : ByteArray)) ++ (⟨#[125, 125]⟩ : ByteArray)).size ≤ 9223372036854775807
                 ·rw [if_pos c41] at H
                  have c41b0 := eq_true c41
                  have c41b1 : decide (x4_1.size + (((⟨#[123, 123]⟩ : ByteArray) ++ (⟨#[101, 110, 100]⟩ : ByteArray)) ++ (⟨#[125, 125]⟩ : ByteArray)).size ≤ 9223372036854775807) = true := decide_eq_true c41
                  try have c41b2 : (9223372036854775807 < x4_1.size + (((⟨#[123, 123]⟩ : ByteArray) ++ (⟨#[101, 110, 100]⟩ : ByteArray)) ++ (⟨#[125, 125]⟩ : ByteArray)).size) = False := eq_false (Nat.not_lt.2 c41)
                  try have c41b3 : (9223372036854775807 < x4_1.size + ((2 + 3) + 2)) = False := eq_false (Nat.not_lt.2 (by have h_ := c41; simp only [ByteArray.size_append] at h_; exact h_))
                  have H' := Aside0.mk H
                  clear H
                  have hcz42_0 : wr.cell? ⟨gb285, 0, none⟩ = some (.int .u8 ((rd_T40 l0 x15_1).f0)) := (blk_cell BK285.out 0).trans rfl
                  have hcz42_1 : wr.cell? ⟨gb285, 1, none⟩ = some (.string ((rd_T40 l0 x15_1).f1)) := (blk_cell BK285.out 1).trans rfl
                  have hcz42_2 : wr.cell? ⟨gb285, 2, none⟩ = some (.slice A284_2 ((rd_T40 l0 x15_1).f2).length c284_2) := (blk_cell BK285.out 2).trans rfl
                  have hfz42_0 := blk_frozen BK285.out 0
                  have hfz42_1 := blk_frozen BK285.out 1
                  have hfz42_2 := blk_frozen BK285.out 2
                  go_wp2
                  go_roundg k2
                  case measure => have := HK1.out; have := HK2.out; omega
                  case rel => exact ⟨(x4_1 ++ (((⟨#[123, 123]⟩ : ByteArray) ++ (⟨#[101, 110, 100]⟩ : ByteArray)) ++ (⟨#[125, 125]⟩ : ByteArray))), (wrap64 (x15_1 + 1)), (by first | rfl | (simp; done) | (simp [*]; done)), (by first | rfl | (simp; done) | (simp [*]; done)), H', ⟨by have := HK1.out; have := HK2.out; omega⟩, ⟨by repeat (first | (with_reducible first | exact HB.out | apply below_alloc | apply pw_below_drewN | apply below_drew1 | refine below_set ?_ GE285.out) | exact HB.out)⟩⟩
                 ·rw [if_neg c41] at H
                  exact absurd H (by simp)
                ·rw [if_neg c40] at H
                 exact absurd H (by simp)
               ·rw [if_neg c39] at H
                exact absurd H (by simp)
              ·rw [if_neg c38] at H
               have c38b0 : (((rd_T40 l0 x15_1).f0) == 6) = false := beq_eq_false_iff_ne.mpr c38
               have c38b1 : (((rd_T40 l0 x15_1).f0) != 6) = true := bne_iff_ne.mpr c38
               by_cases c43 : 2 + x7_2.size ≤ 9223372036854775807
               ·rw [if_pos c43] at H
                have c43b0 := eq_true c43
                have c43b1 : decide (2 + x7_2.size ≤ 9223372036854775807) = true := decide_eq_true c43
                try have c43b2 : (9223372036854775807 < 2 + x7_2.size) = False := eq_false (Nat.not_lt.2 c43)
                by_cases c44 : ((⟨#[123, 123]⟩ : ByteArray) ++ x7_2).size + 2 ≤ 9223372036854775807
                ·rw [if_pos c44] at H
                 have c44b0 := eq_true c44
                 have c44b1 : decide (((⟨#[123, 123]⟩ : ByteArray) ++ x7_2).size + 2 ≤ 9223372036854775807) = true := decide_eq_true c44
                 try have c44b2 : (9223372036854775807 < ((⟨#[123, 123]⟩ : ByteArray) ++ x7_2).size + 2) = False := eq_false (Nat.not_lt.2 c44)
                 try have c44b3 : (9223372036854775807 < (2 + x7_2.size) + 2) = False := eq_false (Nat.not_lt.2 (by have h_ := c44; simp only [ByteArray.size_append] at h_; exact h_))
                 by_cases c45 : x4_1.size + (((⟨#[123, 123]⟩ : ByteArray) ++ x7_2) ++ (⟨#[125, 125]⟩ : ByteArray)).size ≤ 9223372036854775807
                 ·rw [if_pos c45] at H
                  have c45b0 := eq_true c45
                  have c45b1 : decide (x4_1.size + (((⟨#[123, 123]⟩ : ByteArray) ++ x7_2) ++ (⟨#[125, 125]⟩ : ByteArray)).size ≤ 9223372036854775807) = true := decide_eq_true c45
                  try have c45b2 : (9223372036854775807 < x4_1.size + (((⟨#[123, 123]⟩ : ByteArray) ++ x7_2) ++ (⟨#[125, 125]⟩ : ByteArray)).size) = False := eq_false (Nat.not_lt.2 c45)
                  try have c45b3 : (9223372036854775807 < x4_1.size + ((2 + x7_2.size) + 2)) = False := eq_false (Nat.not_lt.2 (by have h_ := c45; simp only [ByteArray.size_append] at h_; exact h_))
                  have H' := Aside0.mk H
                  clear H
                  have hcz46_0 : wr.cell? ⟨gb285, 0, none⟩ = some (.int .u8 ((rd_T40 l0 x15_1).f0)) := (blk_cell BK285.out 0).trans rfl
                  have hcz46_1 : wr.cell? ⟨gb285, 1, none⟩ = some (.string ((rd_T40 l0 x15_1).f1)) := (blk_cell BK285.out 1).trans rfl
                  have hcz46_2 : wr.cell? ⟨gb285, 2, none⟩ = some (.slice A284_2 ((rd_T40 l0 x15_1).f2).length c284_2) := (blk_cell BK285.out 2).trans rfl
                  have hfz46_0 := blk_frozen BK285.out 0
                  have hfz46_1 := blk_frozen BK285.out 1
                  have hfz46_2 := blk_frozen BK285.out 2
                  go_wp2
                  go_roundg k2
                  case measure => have := HK1.out; have := HK2.out; omega
                  case rel => exact ⟨(x4_1 ++ (((⟨#[123, 123]⟩ : ByteArray) ++ x7_2) ++ (⟨#[125, 125]⟩ : ByteArray))), (wrap64 (x15_1 + 1)), (by first | rfl | (simp; done) | (simp [*]; done)), (by first | rfl | (simp; done) | (simp [*]; done)), H', ⟨by have := HK1.out; have := HK2.out; omega⟩, ⟨by repeat (first | (with_reducible first | exact HB.out | apply below_alloc | apply pw_below_drewN | apply below_drew1 | refine below_set ?_ GE285.out) | exact HB.out)⟩⟩
                 ·rw [if_neg c45] at H
                  exact absurd H (by simp)
                ·rw [if_neg c44] at H
                 exact absurd H (by simp)
               ·rw [if_neg c43] at H
                exact absurd H (by simp)
      ·rw [if_neg c7] at H
       exact absurd H (by simp)
     ·rw [if_neg c6] at H
      exact absurd H (by simp)
    ·rw [if_neg c5] at H
     have c5b0 : decide (x15_1 < (l0.length : Int)) = false := decide_eq_false c5
     clear c5
     by_cases c47 : (x4_1.size : Int) > 1024
     ·rw [if_pos c47] at H
      have c47b0 : decide (1024 < (x4_1.size : Int)) = true := decide_eq_true c47
      have c47b1 : decide (1024 < x4_1.size) = true := decide_eq_true (by omega)
      clear c47
      simp only [Option.some.injEq, Prod.mk.injEq] at H
      obtain ⟨rfl, rfl⟩ := H
      go_wp2
      go_ret2
      exact ⟨by first | rfl | (simp [errW_none, errW_some] <;> rfl) | (simp [*, errW_none, errW_some] <;> rfl), by repeat (first | (with_reducible first | exact HB.out | apply below_alloc | apply pw_below_drewN | apply below_drew1) | exact HB.out)⟩
     ·rw [if_neg c47] at H
      have c47b0 : decide (1024 < (x4_1.size : Int)) = false := decide_eq_false c47
      have c47b1 : decide (1024 < x4_1.size) = false := decide_eq_false (by omega)
      clear c47
      simp only [Option.some.injEq, Prod.mk.injEq] at H
      obtain ⟨rfl, rfl⟩ := H
      go_wp2
      go_ret2
      exact ⟨by first | rfl | (simp [errW_none, errW_some] <;> rfl) | (simp [*, errW_none, errW_some] <;> rfl), by repeat (first | (with_reducible first | exact HB.out | apply below_alloc | apply pw_below_drewN | apply below_drew1) | exact HB.out)⟩
 ·rw [if_neg c3] at H
  have c3b0 : (t283 == 0) = false := beq_eq_false_iff_ne.mpr c3
  have c3b1 : (t283 != 0) = true := bne_iff_ne.mpr c3
  simp only [Option.some.injEq, Prod.mk.injEq] at H
  obtain ⟨rfl, rfl⟩ := H
  go_enter Tryd.func16, Tryd.ntmps16
  go_wp2_with (first | ((with_reducible refine gate_callee (f := 18) rfl ?_); refine goesL_ (some 11) rfl rfl Tryd.func18 (by kernel_rfl) rfl #[.slice A0 l0.length c0] rfl (by (try simp only [List.map_toArray, List.map_cons, List.map_nil]); first | done | rfl | (simp only [List.length_drop, List.length_take]; rfl)) ?_; (with_reducible refine (bellmanref10_Check.calls k _ _ l0 t283 _ ?side1 ?side2 A2.out).mono ?_); (case side1 => repeat (first | exact HR0.out | (with_reducible refine Kd.C_alloc ?_ _) | (with_reducible refine Kd.C_drewN ?_ _) | (with_reducible refine Kd.C_drew ?_))); (case side2 => exact HC0.out); rintro e w48 ⟨rfl, hb⟩; refine ⟨_, rfl, ?_⟩; have n0_ := Aside0.mk (below_step (by repeat (first | (with_reducible first | exact HB.out | apply below_alloc | apply pw_below_drewN | apply below_drew1) | exact HB.out)) hb); clear HB; have HB := n0_; clear n0_; (try clear hb); (try clear hb2); (try clear hk); (try clear hi)))
  go_ret2
  exact ⟨by first | rfl | (simp [errW_none, errW_some] <;> rfl) | (simp [*, errW_none, errW_some] <;> rfl), by repeat (first | (with_reducible first | exact HB.out | apply below_alloc | apply pw_below_drewN | apply below_drew1) | exact HB.out)⟩

end Go.Proofs.YtcblmfcgjemgkaaDoor.XS
-- squeezed
