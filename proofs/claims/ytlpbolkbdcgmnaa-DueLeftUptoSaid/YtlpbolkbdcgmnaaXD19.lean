-- by px.py, a program of this session, over the kit's printer: functions given by hand stand beside printed ones. Lean checks all of it.
import Derived.Test.YtlpbolkbdcgmnaaXD0
import Derived.Test.YtlpbolkbdcgmnaaXD5
import Derived.Test.YtlpbolkbdcgmnaaXD6
import Derived.Test.YtlpbolkbdcgmnaaXD7
import Derived.Test.YtlpbolkbdcgmnaaXD12
import Derived.Test.YtlpbolkbdcgmnaaXD13
namespace Go.Proofs.Ytlpbolkbdcgmnaa.XD
open Go.RowKit Go.Proofs.YtlpbolkbdcgmnaaW.PrintWords Go.Proofs.YtlpbolkbdcgmnaaW.PrintLast Go.Proofs.YtlpbolkbdcgmnaaW.PrintMore
attribute [local go_sem] max2_int min2_int max_two min_two max_three min_three max_four min_four   -- for this text's walks alone
set_option linter.unusedVariables false
set_option linter.unusedSimpArgs false

/-! ### bellmanlaw16_DueLeft: function 11 -/
mutual
def bellmanlaw16_DueLeft.l0 : Nat → List (S29) → Int → List (S29) → List (S29) → Int → Int → List (S29) → Int → Int → Option (Bool)
 | 0, _, _, _, _, _, _, _, _, _ => none
 | k + 1, x0, x1, x5, x6, x8, x9, x39, x40, x41 => if x41 < x40 then (if 0 ≤ x41 then (if x41 < (x39.length : Int) then (if ((rd_T29 x39 x41).f0) > x1 then (some false) else (if x41 > 0 then (if 0 ≤ (wrap64 (x41 - 1)) then (if (wrap64 (x41 - 1)) < (x6.length : Int) then ((bellmanref15_Ahead.f ((rd_T29 x6 (wrap64 (x41 - 1))).f0) ((rd_T29 x6 (wrap64 (x41 - 1))).f1) ((rd_T29 x6 (wrap64 (x41 - 1))).f2) ((rd_T29 x6 (wrap64 (x41 - 1))).f3) ((rd_T29 x39 x41).f0) ((rd_T29 x39 x41).f1) ((rd_T29 x39 x41).f2) ((rd_T29 x39 x41).f3)).bind fun t409 => (if t409 = true then (bellmanlaw16_DueLeft.l0 k x0 x1 x5 x6 x8 x9 x39 x40 (wrap64 (x41 + 1))) else (some false))) else (none)) else (none)) else (bellmanlaw16_DueLeft.l0 k x0 x1 x5 x6 x8 x9 x39 x40 (wrap64 (x41 + 1))))) else (none)) else (none)) else (bellmanlaw16_DueLeft.l1 k x0 x1 x5 x6 x8 x9 x5 (x5.length : Int) 0)
def bellmanlaw16_DueLeft.l1 : Nat → List (S29) → Int → List (S29) → List (S29) → Int → Int → List (S29) → Int → Int → Option (Bool)
 | 0, _, _, _, _, _, _, _, _, _ => none
 | k + 1, x0, x1, x5, x6, x8, x9, x65, x66, x67 => if x67 < x66 then (if 0 ≤ x67 then (if x67 < (x65.length : Int) then (if ((rd_T29 x65 x67).f0) ≤ x1 then (some false) else (bellmanlaw16_DueLeft.l1 k x0 x1 x5 x6 x8 x9 x65 x66 (wrap64 (x67 + 1)))) else (none)) else (none)) else (if x9 = 0 then (if x8 = (x6.length : Int) then (if (wrap64 ((x6.length : Int) + (x5.length : Int))) = (x0.length : Int) then ((heap_Check.f k x5).bind fun t412 => (some (t412 == 0))) else (some false)) else (some false)) else (some false))
end
def bellmanlaw16_DueLeft.f (k : Nat) (l0 : List (S29)) (a1 : Int) : Option (Bool) := (bellmanlaw16_lives.f k).bind fun t396 => (if t396 = true then ((due_Drain.f k l0 a1).bind fun bt397 => ((due_Count.f k l0 a1).bind fun bt404 => (if bt397.2.2 = 0 then (bellmanlaw16_DueLeft.l0 k l0 a1 bt397.1 bt397.2.1 bt404.1 bt404.2 bt397.2.1 (bt397.2.1.length : Int) 0) else (if bt404.2 = bt397.2.2 then (some ((bt397.1.length : Int) == 0)) else (none))))) else (none))
theorem bellmanlaw16_DueLeft.mono_l : ∀ k, (∀ y0 y1 y2 y3 y4 y5 y6 y7 y8, LeO (bellmanlaw16_DueLeft.l0 k y0 y1 y2 y3 y4 y5 y6 y7 y8) (bellmanlaw16_DueLeft.l0 (k + 1) y0 y1 y2 y3 y4 y5 y6 y7 y8)) ∧ (∀ y0 y1 y2 y3 y4 y5 y6 y7 y8, LeO (bellmanlaw16_DueLeft.l1 k y0 y1 y2 y3 y4 y5 y6 y7 y8) (bellmanlaw16_DueLeft.l1 (k + 1) y0 y1 y2 y3 y4 y5 y6 y7 y8))
 | 0 => ⟨fun _ _ _ _ _ _ _ _ _ r h => by simp [bellmanlaw16_DueLeft.l0] at h, fun _ _ _ _ _ _ _ _ _ r h => by simp [bellmanlaw16_DueLeft.l1] at h⟩
 | k + 1 => by
  obtain ⟨ih0, ih1⟩ := bellmanlaw16_DueLeft.mono_l k
  refine ⟨?_, ?_⟩
  ·intro y0 y1 y2 y3 y4 y5 y6 y7 y8
   unfold bellmanlaw16_DueLeft.l0
   repeat' first
   | (with_reducible exact ih0 _ _ _ _ _ _ _ _ _)
   | (with_reducible exact ih1 _ _ _ _ _ _ _ _ _)
   | (with_reducible exact bellmanlaw16_lives.mono _)
   | (with_reducible exact due_Count.mono _ _ _)
   | (with_reducible exact due_Drain.mono _ _ _)
   | (with_reducible exact heap_Check.mono _ _)
   | (with_reducible exact LeO.refl _)
   | (with_reducible exact LeO.none _)
   | (with_reducible refine LeO.ite ?_ ?_)
   | (with_reducible refine LeO.bind ?_ (fun _ => ?_))
   | exact ih0 _ _ _ _ _ _ _ _ _
   | exact ih1 _ _ _ _ _ _ _ _ _
   | exact bellmanlaw16_lives.mono _
   | exact due_Count.mono _ _ _
   | exact due_Drain.mono _ _ _
   | exact heap_Check.mono _ _
   | exact LeO.none _
   | refine LeO.ite ?_ ?_
   | refine LeO.bind ?_ (fun _ => ?_)
  ·intro y0 y1 y2 y3 y4 y5 y6 y7 y8
   unfold bellmanlaw16_DueLeft.l1
   repeat' first
   | (with_reducible exact ih0 _ _ _ _ _ _ _ _ _)
   | (with_reducible exact ih1 _ _ _ _ _ _ _ _ _)
   | (with_reducible exact bellmanlaw16_lives.mono _)
   | (with_reducible exact due_Count.mono _ _ _)
   | (with_reducible exact due_Drain.mono _ _ _)
   | (with_reducible exact heap_Check.mono _ _)
   | (with_reducible exact LeO.refl _)
   | (with_reducible exact LeO.none _)
   | (with_reducible refine LeO.ite ?_ ?_)
   | (with_reducible refine LeO.bind ?_ (fun _ => ?_))
   | exact ih0 _ _ _ _ _ _ _ _ _
   | exact ih1 _ _ _ _ _ _ _ _ _
   | exact bellmanlaw16_lives.mono _
   | exact due_Count.mono _ _ _
   | exact due_Drain.mono _ _ _
   | exact heap_Check.mono _ _
   | exact LeO.none _
   | refine LeO.ite ?_ ?_
   | refine LeO.bind ?_ (fun _ => ?_)
theorem bellmanlaw16_DueLeft.mono : ∀ a0 a1 k, LeO (bellmanlaw16_DueLeft.f k a0 a1) (bellmanlaw16_DueLeft.f (k + 1) a0 a1) := by
 intro a0 a1 k
 obtain ⟨ih0, ih1⟩ := bellmanlaw16_DueLeft.mono_l k
 unfold bellmanlaw16_DueLeft.f
 repeat' first
   | (with_reducible exact ih0 _ _ _ _ _ _ _ _ _)
   | (with_reducible exact ih1 _ _ _ _ _ _ _ _ _)
   | (with_reducible exact bellmanlaw16_lives.mono _)
   | (with_reducible exact due_Count.mono _ _ _)
   | (with_reducible exact due_Drain.mono _ _ _)
   | (with_reducible exact heap_Check.mono _ _)
   | (with_reducible exact LeO.refl _)
   | (with_reducible exact LeO.none _)
   | (with_reducible refine LeO.ite ?_ ?_)
   | (with_reducible refine LeO.bind ?_ (fun _ => ?_))
   | exact ih0 _ _ _ _ _ _ _ _ _
   | exact ih1 _ _ _ _ _ _ _ _ _
   | exact bellmanlaw16_lives.mono _
   | exact due_Count.mono _ _ _
   | exact due_Drain.mono _ _ _
   | exact heap_Check.mono _ _
   | exact LeO.none _
   | refine LeO.ite ?_ ?_
   | refine LeO.bind ?_ (fun _ => ?_)
def bellmanlaw16_DueLeft.T10 : Bool × List (List Nat × List Nat) := (true, [([], []), ([0], [0]), ([], []), ([1, 2], [1, 2]), ([3], [3]), ([4], [4]), ([5, 4], [4, 5]), ([6, 4, 4], [4, 6]), ([7], [7]), ([7], [7]), ([9, 7], [7, 9]), ([8, 10, 7], [7, 8, 10]), ([11, 7], [7, 11]), ([7], [7]), ([12, 13, 7, 7], [7, 12, 13]), ([14, 7], [7, 14]), ([7, 15, 4], [4, 7, 15]), ([4, 16], [4, 16])])
def bellmanlaw16_DueLeft.B10 : List Nat := [0, 1, 0, 7, 15, 31, 63, 127, 255, 255, 767, 2047, 4095, 255, 16383, 32767, 65535, 131071]
theorem bellmanlaw16_DueLeft.tab10 : rtab .any (opsOf Try.f11 10) = bellmanlaw16_DueLeft.T10 := by kernel_rfl
theorem bellmanlaw16_DueLeft.bits10 : waitsOk bellmanlaw16_DueLeft.T10.2 bellmanlaw16_DueLeft.B10 = true := by kernel_rfl
set_option maxHeartbeats 8000000 in
set_option maxRecDepth 100000 in
theorem bellmanlaw16_DueLeft.calls (k : Nat) (A0 : Option Addr) (c0 : Nat) (l0 : List (S29)) (a1 : Int) (r : Bool) (w : World) (hr0 : Kd.C k29 w A0 l0.length l0) (hc0 : l0.length ≤ c0) (h : bellmanlaw16_DueLeft.f k l0 a1 = some r) :
  Calls Try.prog 11 #[.slice A0 l0.length c0, .int .i64 a1] w fun e w' => e = .returned (.bool r) ∧ Below w.heap.size w w' := by
 have hu29 := Try.underlying29
 have HR0 := Aside0.mk hr0
 have HC0 := Aside0.mk hc0
 clear hr0 hc0
 have HB := Aside0.mk (Below.refl w.heap.size w)
 have H : ((bellmanlaw16_lives.f k).bind fun t396 => (if t396 = true then ((due_Drain.f k l0 a1).bind fun bt397 => ((due_Count.f k l0 a1).bind fun bt404 => (if bt397.2.2 = 0 then (bellmanlaw16_DueLeft.l0 k l0 a1 bt397.1 bt397.2.1 bt404.1 bt404.2 bt397.2.1 (bt397.2.1.length : Int) 0) else (if bt404.2 = bt397.2.2 then (some ((bt397.1.length : Int) == 0)) else (none))))) else (none))) = some r := h
 clear h
 replace H := Option.bind_eq_some_iff.mp H
 obtain ⟨t396, A30, H⟩ := H
 replace H : (if t396 = true then ((due_Drain.f k l0 a1).bind fun bt397 => ((due_Count.f k l0 a1).bind fun bt404 => (if bt397.2.2 = 0 then (bellmanlaw16_DueLeft.l0 k l0 a1 bt397.1 bt397.2.1 bt404.1 bt404.2 bt397.2.1 (bt397.2.1.length : Int) 0) else (if bt404.2 = bt397.2.2 then (some ((bt397.1.length : Int) == 0)) else (none))))) else (none)) = some r := H
 have A3 := Aside0.mk A30
 clear A30
 by_cases c4 : t396 = true
 ·subst c4
  have H1 : ((due_Drain.f k l0 a1).bind fun bt397 => ((due_Count.f k l0 a1).bind fun bt404 => (if bt397.2.2 = 0 then (bellmanlaw16_DueLeft.l0 k l0 a1 bt397.1 bt397.2.1 bt404.1 bt404.2 bt397.2.1 (bt397.2.1.length : Int) 0) else (if bt404.2 = bt397.2.2 then (some ((bt397.1.length : Int) == 0)) else (none))))) = some r := by rw [if_pos rfl] at H; exact H
  clear H
  have H := H1
  clear H1
  replace H := Option.bind_eq_some_iff.mp H
  obtain ⟨⟨t397, t400, t403⟩, A50, H⟩ := H
  replace H : ((due_Count.f k l0 a1).bind fun bt404 => (if t403 = 0 then (bellmanlaw16_DueLeft.l0 k l0 a1 t397 t400 bt404.1 bt404.2 t400 (t400.length : Int) 0) else (if bt404.2 = t403 then (some ((t397.length : Int) == 0)) else (none)))) = some r := H
  have A5 := Aside0.mk A50
  clear A50
  replace H := Option.bind_eq_some_iff.mp H
  obtain ⟨⟨t404, t405⟩, A60, H⟩ := H
  replace H : (if t403 = 0 then (bellmanlaw16_DueLeft.l0 k l0 a1 t397 t400 t404 t405 t400 (t400.length : Int) 0) else (if t405 = t403 then (some ((t397.length : Int) == 0)) else (none))) = some r := H
  have A6 := Aside0.mk A60
  clear A60
  by_cases c7 : t403 = 0
  ·rw [if_pos c7] at H
   have c7b0 : (t403 == 0) = true := beq_iff_eq.mpr c7
   have c7b1 : (t403 != 0) = false := bne_eq_false_iff_eq.mpr c7
   clear c7
   have H' := Aside0.mk H
   clear H
   go_enter Try.func11, Try.ntmps11
   go_wp2_with (first | ((with_reducible refine gate_callee (f := 29) rfl ?_); refine goesL_ (some 14) rfl rfl Try.func29 (by kernel_rfl) rfl #[] rfl (by (try simp only [List.map_toArray, List.map_cons, List.map_nil]); first | done | rfl | (simp only [List.length_drop, List.length_take]; rfl)) ?_; (with_reducible refine (bellmanlaw16_lives.calls k  true _ A3.out).mono ?_); rintro e w8 ⟨rfl, hb⟩; refine ⟨_, rfl, ?_⟩; have n0_ := Aside0.mk (below_step (by repeat (first | (with_reducible first | exact HB.out | apply below_alloc | apply pw_below_drewN | apply below_drew1) | exact HB.out)) hb); clear HB; have HB := n0_; clear n0_; (try clear hb); (try clear hb2); (try clear hk); (try clear hi)) | ((with_reducible refine gate_callee (f := 16) rfl ?_); refine goesL_ (some 19) rfl rfl Try.func16 (by kernel_rfl) rfl #[.slice A0 l0.length c0, .int .i64 a1] rfl (by (try simp only [List.map_toArray, List.map_cons, List.map_nil]); first | done | rfl | (simp only [List.length_drop, List.length_take]; rfl)) ?_; (with_reducible refine (due_Drain.calls k _ _ l0 a1 t397 t400 t403 _ ?side1 ?side2 A5.out).mono ?_); (case side1 => repeat (first | exact (Kd.C_below HR0.out HB.out) | (with_reducible refine Kd.C_alloc ?_ _) | (with_reducible refine Kd.C_drewN ?_ _) | (with_reducible refine Kd.C_drew ?_))); (case side2 => exact HC0.out); rintro e w9 ⟨v398, v401, rfl, ho0, ho1, hb⟩; refine ⟨_, rfl, ?_⟩; have n0_ := Aside0.mk (Kd.V_lower (Kd.V_mono (ok' := fun k_ => True) ho0 (fun k_ hk_ => trivial)) (below_size (by repeat (first | (with_reducible first | exact HB.out | apply below_alloc | apply pw_below_drewN | apply below_drew1) | exact HB.out)))); have n1_ := Aside0.mk (Kd.V_lower (Kd.V_mono (ok' := fun k_ => True) ho1 (fun k_ hk_ => trivial)) (below_size (by repeat (first | (with_reducible first | exact HB.out | apply below_alloc | apply pw_below_drewN | apply below_drew1) | exact HB.out)))); have n2_ := Aside0.mk (below_step (by repeat (first | (with_reducible first | exact HB.out | apply below_alloc | apply pw_below_drewN | apply below_drew1) | exact HB.out)) hb); clear HB; have HO399 := n0_; have HO402 := n1_; have HB := n2_; clear n0_ n1_ n2_; (try clear hb); (try clear hb2); (try clear hk); (try clear hi); (try clear ho0); (try clear ho1)) | ((with_reducible refine gate_callee (f := 31) rfl ?_); refine goesL_ (some 26) rfl rfl Try.func31 (by kernel_rfl) rfl #[.slice A0 l0.length c0, .int .i64 a1] rfl (by (try simp only [List.map_toArray, List.map_cons, List.map_nil]); first | done | rfl | (simp only [List.length_drop, List.length_take]; rfl)) ?_; (with_reducible refine (due_Count.calls k _ _ l0 a1 t404 t405 _ ?side1 ?side2 A6.out).mono ?_); (case side1 => repeat (first | exact (Kd.C_below HR0.out HB.out) | (with_reducible refine Kd.C_alloc ?_ _) | (with_reducible refine Kd.C_drewN ?_ _) | (with_reducible refine Kd.C_drew ?_))); (case side2 => exact HC0.out); rintro e w10 ⟨rfl, hb⟩; refine ⟨_, rfl, ?_⟩; have n0_ := Aside0.mk (Kd.V_below (by (with_reducible repeat (first | apply Kd.V_alloc | apply Kd.V_drewN | apply Kd.V_drew)); exact HO399.out) hb); have n1_ := Aside0.mk (Kd.V_below (by (with_reducible repeat (first | apply Kd.V_alloc | apply Kd.V_drewN | apply Kd.V_drew)); exact HO402.out) hb); have n2_ := Aside0.mk (below_step (by repeat (first | (with_reducible first | exact HB.out | apply below_alloc | apply pw_below_drewN | apply below_drew1) | exact HB.out)) hb); clear HO399; clear HO402; clear HB; have HO399 := n0_; have HO402 := n1_; have HB := n2_; clear n0_ n1_ n2_; (try clear hb); (try clear hb2); (try clear hk); (try clear hi); obtain ⟨Ao11, co11, eo11⟩ := Kd.V_slice HO402.out; subst eo11))
   go_loopg [41] k (fun kq v41 w' => ∃ (x41_1 : Int), v41 = .int .i64 x41_1 ∧ Aside0 (bellmanlaw16_DueLeft.l0 kq l0 a1 t397 t400 t404 t405 t400 (t400.length : Int) x41_1 = some r) ∧ Aside0 (kq ≤ k) ∧ Aside0 (Kd.V k29 29 w' w.heap.size (fun _ => True) v398 t397) ∧ Aside0 (Kd.V k29 29 w' w.heap.size (fun _ => True) (.slice Ao11 t400.length co11) t400) ∧ Aside0 (Kd.V k29 29 w' w.heap.size (fun _ => True) (.slice Ao11 t400.length co11) t400) ∧ Aside0 (Below w.heap.size w w'))
   case atStart => exact ⟨(0), (by first | rfl | (simp; done) | (simp [*]; done)), H', ⟨Nat.le_refl _⟩, ⟨by (with_reducible repeat (first | apply Kd.V_alloc | apply Kd.V_drewN | apply Kd.V_drew)); exact HO399.out⟩, ⟨by (with_reducible repeat (first | apply Kd.V_alloc | apply Kd.V_drewN | apply Kd.V_drew)); exact HO402.out⟩, ⟨by (with_reducible repeat (first | apply Kd.V_alloc | apply Kd.V_drewN | apply Kd.V_drew)); exact HO402.out⟩, ⟨by repeat (first | (with_reducible first | exact HB.out | apply below_alloc | apply pw_below_drewN | apply below_drew1) | exact HB.out)⟩⟩
   case round =>
    clear H'
    try clear c1
    try clear c2
    try clear p2
    try clear c3
    try clear c4
    try clear c7
    try clear c7b0
    try clear c7b1
    try clear c11
    obtain ⟨x41_1, rfl, HA, HK1, HO_5, HO_6, HO_39, HB⟩ := hrel
    cases gk with
    | zero => exact absurd HA.out (by simp [bellmanlaw16_DueLeft.l0])
    | succ k1 =>
     have H := HA.out
     clear HA
     simp only [bellmanlaw16_DueLeft.l0] at H
     by_cases c12 : x41_1 < (t400.length : Int)
     ·rw [if_pos c12] at H
      have c12b0 : decide (x41_1 < (t400.length : Int)) = true := decide_eq_true c12
      clear c12
      by_cases c13 : 0 ≤ x41_1
      ·rw [if_pos c13] at H
       have c13b0 : decide (0 ≤ x41_1) = true := decide_eq_true c13
       clear c13
       by_cases c14 : x41_1 < (t400.length : Int)
       ·rw [if_pos c14] at H
        have c14b0 : decide (x41_1 < (t400.length : Int)) = true := decide_eq_true c14
        clear c14
        by_cases c15 : ((rd_T29 t400 x41_1).f0) > a1
        ·rw [if_pos c15] at H
         have c15b0 : decide (a1 < ((rd_T29 t400 x41_1).f0)) = true := decide_eq_true c15
         clear c15
         obtain rfl := Option.some.inj H
         have p406 : 0 ≤ (x41_1 : Int) := of_decide_eq_true (by first | (with_reducible assumption) | assumption)
         have q406 : x41_1 < (t400.length : Int) := of_decide_eq_true (by first | (with_reducible assumption) | assumption)
         obtain ⟨ad406, e406, hx406_0, hx406_1, hx406_2, hx406_3⟩ := at_T29 (Kd.V_reads' HO_39.out).2.2 x41_1 p406 q406
         cases e406
         replace p406 := eq_true p406
         replace q406 := eq_true q406
         try go_wp2_with (first | ((with_reducible refine gate_dst (N := 11) rfl ?_); (try (refine gate_guard (by rfl) ?_; dsimp only)); refine box_event ?hg (N := 11) ?hd (cs := #[.int .i64 0, .int .i64 0, .int .u8 0, .int .i64 0]) (t := 29) ?hr ?_; (case hd => rfl); (case hg => rfl); (case hr => first | (go_simp; done) | (go_simp; rfl)); intro gb407 hg w16 hbox hb; have n0_ := Aside0.mk (Kd.V_below (Kd.V_elderB (by (with_reducible repeat (first | apply Kd.V_alloc | apply Kd.V_drewN | apply Kd.V_drew)); exact HO_5.out) gb407 (Nat.le_of_eq hg.symm)) hb); have n1_ := Aside0.mk (Kd.V_below (Kd.V_elderB (by (with_reducible repeat (first | apply Kd.V_alloc | apply Kd.V_drewN | apply Kd.V_drew)); exact HO_6.out) gb407 (Nat.le_of_eq hg.symm)) hb); have n2_ := Aside0.mk (Kd.V_below (Kd.V_elderB (by (with_reducible repeat (first | apply Kd.V_alloc | apply Kd.V_drewN | apply Kd.V_drew)); exact HO_39.out) gb407 (Nat.le_of_eq hg.symm)) hb); have n3_ := Aside0.mk (below_step (by repeat (first | (with_reducible first | exact HB.out | apply below_alloc | apply pw_below_drewN | apply below_drew1) | exact HB.out)) hb); have n4_ := Aside0.mk (hbox); have n5_ := Aside0.mk ((by rw [hg]; exact (below_size (by repeat (first | (with_reducible first | exact HB.out | apply below_alloc | apply pw_below_drewN | apply below_drew1) | exact HB.out))) : w.heap.size ≤ gb407)); have n6_ := Aside0.mk ((by rw [hg]; exact (below_size (by repeat (first | (with_reducible first | exact HB.out | apply below_alloc | apply pw_below_drewN | apply below_drew1) | exact HB.out))) : w.heap.size ≤ gb407)); clear HO_5; clear HO_6; clear HO_39; clear HB; have HO_5 := n0_; have HO_6 := n1_; have HO_39 := n2_; have HB := n3_; have BK407 := n4_; have GW407 := n5_; have GE407 := n6_; clear n0_ n1_ n2_ n3_ n4_ n5_ n6_; clear hb hbox hg; have hcz17_0 : w16.cell? ⟨gb407, 0, none⟩ = some (.int .i64 0) := (blk_cell BK407.out 0).trans rfl; have hcz17_1 : w16.cell? ⟨gb407, 1, none⟩ = some (.int .i64 0) := (blk_cell BK407.out 1).trans rfl; have hcz17_2 : w16.cell? ⟨gb407, 2, none⟩ = some (.int .u8 0) := (blk_cell BK407.out 2).trans rfl; have hcz17_3 : w16.cell? ⟨gb407, 3, none⟩ = some (.int .i64 0) := (blk_cell BK407.out 3).trans rfl; have hfz17_0 := blk_frozen BK407.out 0; have hfz17_1 := blk_frozen BK407.out 1; have hfz17_2 := blk_frozen BK407.out 2; have hfz17_3 := blk_frozen BK407.out 3))
         have n0_ : Aside0 (Kd.V k29 29 ((((w16.setCell ⟨gb407, 0, none⟩ (.int .i64 ((rd_T29 t400 x41_1).f0))).setCell ⟨gb407, 1, none⟩ (.int .i64 ((rd_T29 t400 x41_1).f1))).setCell ⟨gb407, 2, none⟩ (.int .u8 ((rd_T29 t400 x41_1).f2))).setCell ⟨gb407, 3, none⟩ (.int .i64 ((rd_T29 t400 x41_1).f3))) w.heap.size (fun k_ => k_ ≠ gb407) v398 t397) := ⟨by (with_reducible repeat (first | apply Kd.V_alloc | apply Kd.V_drewN | apply Kd.V_drew)); exact Kd.V_mono (Kd.V_far (p := ⟨gb407, 3, none⟩) (Kd.V_far (p := ⟨gb407, 2, none⟩) (Kd.V_far (p := ⟨gb407, 1, none⟩) (Kd.V_far (p := ⟨gb407, 0, none⟩) (Kd.V_mono HO_5.out (fun k_ hk => (⟨hk, hk.2⟩ : _ ∧ k_ ≠ gb407))) (fun _ hk => hk.2) (.int .i64 ((rd_T29 t400 x41_1).f0))) (fun _ hk => hk.2) (.int .i64 ((rd_T29 t400 x41_1).f1))) (fun _ hk => hk.2) (.int .u8 ((rd_T29 t400 x41_1).f2))) (fun _ hk => hk.2) (.int .i64 ((rd_T29 t400 x41_1).f3))) (fun _ hk => hk.1.2)⟩
         have n1_ : Aside0 (Kd.V k29 29 ((((w16.setCell ⟨gb407, 0, none⟩ (.int .i64 ((rd_T29 t400 x41_1).f0))).setCell ⟨gb407, 1, none⟩ (.int .i64 ((rd_T29 t400 x41_1).f1))).setCell ⟨gb407, 2, none⟩ (.int .u8 ((rd_T29 t400 x41_1).f2))).setCell ⟨gb407, 3, none⟩ (.int .i64 ((rd_T29 t400 x41_1).f3))) w.heap.size (fun k_ => k_ ≠ gb407) (.slice (some ad406) t400.length co11) t400) := ⟨by (with_reducible repeat (first | apply Kd.V_alloc | apply Kd.V_drewN | apply Kd.V_drew)); exact Kd.V_mono (Kd.V_far (p := ⟨gb407, 3, none⟩) (Kd.V_far (p := ⟨gb407, 2, none⟩) (Kd.V_far (p := ⟨gb407, 1, none⟩) (Kd.V_far (p := ⟨gb407, 0, none⟩) (Kd.V_mono HO_6.out (fun k_ hk => (⟨hk, hk.2⟩ : _ ∧ k_ ≠ gb407))) (fun _ hk => hk.2) (.int .i64 ((rd_T29 t400 x41_1).f0))) (fun _ hk => hk.2) (.int .i64 ((rd_T29 t400 x41_1).f1))) (fun _ hk => hk.2) (.int .u8 ((rd_T29 t400 x41_1).f2))) (fun _ hk => hk.2) (.int .i64 ((rd_T29 t400 x41_1).f3))) (fun _ hk => hk.1.2)⟩
         have n2_ : Aside0 (Kd.V k29 29 ((((w16.setCell ⟨gb407, 0, none⟩ (.int .i64 ((rd_T29 t400 x41_1).f0))).setCell ⟨gb407, 1, none⟩ (.int .i64 ((rd_T29 t400 x41_1).f1))).setCell ⟨gb407, 2, none⟩ (.int .u8 ((rd_T29 t400 x41_1).f2))).setCell ⟨gb407, 3, none⟩ (.int .i64 ((rd_T29 t400 x41_1).f3))) w.heap.size (fun k_ => k_ ≠ gb407) (.slice (some ad406) t400.length co11) t400) := ⟨by (with_reducible repeat (first | apply Kd.V_alloc | apply Kd.V_drewN | apply Kd.V_drew)); exact Kd.V_mono (Kd.V_far (p := ⟨gb407, 3, none⟩) (Kd.V_far (p := ⟨gb407, 2, none⟩) (Kd.V_far (p := ⟨gb407, 1, none⟩) (Kd.V_far (p := ⟨gb407, 0, none⟩) (Kd.V_mono HO_39.out (fun k_ hk => (⟨hk, hk.2⟩ : _ ∧ k_ ≠ gb407))) (fun _ hk => hk.2) (.int .i64 ((rd_T29 t400 x41_1).f0))) (fun _ hk => hk.2) (.int .i64 ((rd_T29 t400 x41_1).f1))) (fun _ hk => hk.2) (.int .u8 ((rd_T29 t400 x41_1).f2))) (fun _ hk => hk.2) (.int .i64 ((rd_T29 t400 x41_1).f3))) (fun _ hk => hk.1.2)⟩
         have n3_ : Aside0 (((((w16.setCell ⟨gb407, 0, none⟩ (.int .i64 ((rd_T29 t400 x41_1).f0))).setCell ⟨gb407, 1, none⟩ (.int .i64 ((rd_T29 t400 x41_1).f1))).setCell ⟨gb407, 2, none⟩ (.int .u8 ((rd_T29 t400 x41_1).f2))).setCell ⟨gb407, 3, none⟩ (.int .i64 ((rd_T29 t400 x41_1).f3))).heap[gb407]? = some (.cells #[.int .i64 ((rd_T29 t400 x41_1).f0), .int .i64 ((rd_T29 t400 x41_1).f1), .int .u8 ((rd_T29 t400 x41_1).f2), .int .i64 ((rd_T29 t400 x41_1).f3)] 29 (0, 0))) := ⟨by (with_reducible repeat (first | refine blk_drewN ?_ _ | refine blk_drew ?_ | refine blk_alloc ?_ _)); refine blk_put (cs := #[.int .i64 ((rd_T29 t400 x41_1).f0), .int .i64 ((rd_T29 t400 x41_1).f1), .int .u8 ((rd_T29 t400 x41_1).f2), .int .i64 0]) ?_ 3 _ rfl; (with_reducible repeat (first | refine blk_drewN ?_ _ | refine blk_drew ?_ | refine blk_alloc ?_ _)); refine blk_put (cs := #[.int .i64 ((rd_T29 t400 x41_1).f0), .int .i64 ((rd_T29 t400 x41_1).f1), .int .u8 0, .int .i64 0]) ?_ 2 _ rfl; (with_reducible repeat (first | refine blk_drewN ?_ _ | refine blk_drew ?_ | refine blk_alloc ?_ _)); refine blk_put (cs := #[.int .i64 ((rd_T29 t400 x41_1).f0), .int .i64 0, .int .u8 0, .int .i64 0]) ?_ 1 _ rfl; (with_reducible repeat (first | refine blk_drewN ?_ _ | refine blk_drew ?_ | refine blk_alloc ?_ _)); refine blk_put (cs := #[.int .i64 0, .int .i64 0, .int .u8 0, .int .i64 0]) ?_ 0 _ rfl; (with_reducible repeat (first | refine blk_drewN ?_ _ | refine blk_drew ?_ | refine blk_alloc ?_ _)); exact BK407.out⟩
         have n4_ : Aside0 (Below w.heap.size w ((((w16.setCell ⟨gb407, 0, none⟩ (.int .i64 ((rd_T29 t400 x41_1).f0))).setCell ⟨gb407, 1, none⟩ (.int .i64 ((rd_T29 t400 x41_1).f1))).setCell ⟨gb407, 2, none⟩ (.int .u8 ((rd_T29 t400 x41_1).f2))).setCell ⟨gb407, 3, none⟩ (.int .i64 ((rd_T29 t400 x41_1).f3)))) := ⟨by repeat (first | (with_reducible first | exact HB.out | apply below_alloc | apply pw_below_drewN | apply below_drew1 | refine below_set ?_ GE407.out) | exact HB.out)⟩
         (try clear HO_5)
         (try clear HO_6)
         (try clear HO_39)
         (try clear BK407)
         (try clear HB)
         generalize ((((w16.setCell ⟨gb407, 0, none⟩ (.int .i64 ((rd_T29 t400 x41_1).f0))).setCell ⟨gb407, 1, none⟩ (.int .i64 ((rd_T29 t400 x41_1).f1))).setCell ⟨gb407, 2, none⟩ (.int .u8 ((rd_T29 t400 x41_1).f2))).setCell ⟨gb407, 3, none⟩ (.int .i64 ((rd_T29 t400 x41_1).f3))) = w18 at n0_ n1_ n2_ n3_ n4_ ⊢
         have HO_5 := n0_
         have HO_6 := n1_
         have HO_39 := n2_
         have BK407 := n3_
         have HB := n4_
         clear n0_ n1_ n2_ n3_ n4_
         have n0_ := Aside0.mk (Kd.V_drew HO_5.out)
         have n1_ := Aside0.mk (Kd.V_drew HO_6.out)
         have n2_ := Aside0.mk (Kd.V_drew HO_39.out)
         have n3_ := Aside0.mk (blk_drew BK407.out)
         have n4_ := Aside0.mk (below_drew1 HB.out)
         clear HO_5
         clear HO_6
         clear HO_39
         clear BK407
         clear HB
         have HO_5 := n0_
         have HO_6 := n1_
         have HO_39 := n2_
         have BK407 := n3_
         have HB := n4_
         clear n0_ n1_ n2_ n3_ n4_
         refine start_ (n := 18) (S := fun w' => w'.cell? ⟨gb407, 0, none⟩ = some (.int .i64 ((rd_T29 t400 x41_1).f0)) ∧ w'.cell? ⟨gb407, 1, none⟩ = some (.int .i64 ((rd_T29 t400 x41_1).f1)) ∧ w'.cell? ⟨gb407, 2, none⟩ = some (.int .u8 ((rd_T29 t400 x41_1).f2)) ∧ w'.cell? ⟨gb407, 3, none⟩ = some (.int .i64 ((rd_T29 t400 x41_1).f3))) (ds := []) #[false, false, false, false, false, false, false, false, false, false, false, false, false, false, false, false, false, false] (by kernel_rfl) rfl rfl ⟨(blk_cell BK407.out 0).trans rfl, (blk_cell BK407.out 1).trans rfl, (blk_cell BK407.out 2).trans rfl, (blk_cell BK407.out 3).trans rfl⟩ (fun hHeld => ?_); refine with_tabW bellmanlaw16_DueLeft.tab10 bellmanlaw16_DueLeft.bits10 (fun HT_ HW_ => ?_)
         generalize w18.drew = w19 at HO_5 HO_6 HO_39 BK407 HB hHeld ⊢
         refine pure_ (i := 0) (N := some 46) (v := ?_) (a' := ?_) #[true, false, false, false, false, false, false, false, false, false, false, false, false, false, false, false, false, false] rfl rfl (any_of HT_.out (by kernel_rfl)) (fun _ _ _ h => h) (Or.inl ⟨by rfl, ?_⟩) ?_ ?_
         rotate_left
         ·intro w'
          go_simp
          with_reducible rfl
         rotate_left
         ·simp only [Act.put, List.setIfInBounds_toArray, List.set_cons_zero, List.set_cons_succ, i64_w, i32_w]
          rfl
         refine pure_ (i := 2) (N := some 48) (v := ?_) (a' := ?_) #[true, false, true, false, false, false, false, false, false, false, false, false, false, false, false, false, false, false] rfl rfl (any_of HT_.out (by kernel_rfl)) (fun _ _ _ h => h) (Or.inl ⟨by rfl, ?_⟩) ?_ ?_
         rotate_left
         ·intro w'
          go_simp
          with_reducible rfl
         rotate_left
         ·simp only [Act.put, List.setIfInBounds_toArray, List.set_cons_zero, List.set_cons_succ, i64_w, i32_w]
          rfl
         refine take_ (i := 1) (N := some 47) (v := ?_) (a' := ?_) #[true, true, true, false, false, false, false, false, false, false, false, false, false, false, false, false, false, false] rfl rfl (take_ofW HT_.out HW_.out (by kernel_rfl)) (fun _ _ _ h => h) (Or.inl ⟨by rfl, ?_⟩) hHeld ?_ ?_
         rotate_left
         ·rintro w' ⟨s0, s1, s2, s3⟩
          go_simp
          with_reducible rfl
         rotate_left
         ·simp only [Act.put, List.setIfInBounds_toArray, List.set_cons_zero, List.set_cons_succ, i64_w, i32_w]
          rfl
         refine pure_ (i := 3) (N := some 49) (v := ?_) (a' := ?_) #[true, true, true, true, false, false, false, false, false, false, false, false, false, false, false, false, false, false] rfl rfl (any_of HT_.out (by kernel_rfl)) (fun _ _ _ h => h) (Or.inl ⟨by rfl, ?_⟩) ?_ ?_
         rotate_left
         ·intro w'
          go_simp
          with_reducible rfl
         rotate_left
         ·simp only [Act.put, List.setIfInBounds_toArray, List.set_cons_zero, List.set_cons_succ, i64_w, i32_w]
          rfl
         refine pure_ (i := 4) (N := some 50) (v := ?_) (a' := ?_) #[true, true, true, true, true, false, false, false, false, false, false, false, false, false, false, false, false, false] rfl rfl (any_of HT_.out (by kernel_rfl)) (fun _ _ _ h => h) (Or.inl ⟨by rfl, ?_⟩) ?_ ?_
         rotate_left
         ·intro w'
          go_simp
          with_reducible rfl
         rotate_left
         ·simp only [Act.put, List.setIfInBounds_toArray, List.set_cons_zero, List.set_cons_succ, i64_w, i32_w]
          rfl
         refine pure_ (i := 5) (N := some 51) (v := undef) (a' := ?_) #[true, true, true, true, true, true, false, false, false, false, false, false, false, false, false, false, false, false] rfl rfl (any_of HT_.out (by kernel_rfl)) (fun _ _ _ h => h) (Or.inr ⟨by rfl, rfl⟩) ?_ ?_
         rotate_left
         ·simp only [Act.put, List.setIfInBounds_toArray, List.set_cons_zero, List.set_cons_succ, i64_w, i32_w]
          rfl
         refine pure_ (i := 6) (N := some 52) (v := undef) (a' := ?_) #[true, true, true, true, true, true, true, false, false, false, false, false, false, false, false, false, false, false] rfl rfl (any_of HT_.out (by kernel_rfl)) (fun _ _ _ h => h) (Or.inr ⟨by rfl, rfl⟩) ?_ ?_
         rotate_left
         ·simp only [Act.put, List.setIfInBounds_toArray, List.set_cons_zero, List.set_cons_succ, i64_w, i32_w]
          rfl
         refine pure_ (i := 7) (N := some 53) (v := undef) (a' := ?_) #[true, true, true, true, true, true, true, true, false, false, false, false, false, false, false, false, false, false] rfl rfl (any_of HT_.out (by kernel_rfl)) (fun _ _ _ h => h) (Or.inr ⟨by rfl, rfl⟩) ?_ ?_
         rotate_left
         ·simp only [Act.put, List.setIfInBounds_toArray, List.set_cons_zero, List.set_cons_succ, i64_w, i32_w]
          rfl
         refine pure_ (i := 8) (N := some 54) (v := undef) (a' := ?_) #[true, true, true, true, true, true, true, true, true, false, false, false, false, false, false, false, false, false] rfl rfl (any_of HT_.out (by kernel_rfl)) (fun _ _ _ h => h) (Or.inr ⟨by rfl, rfl⟩) ?_ ?_
         rotate_left
         ·simp only [Act.put, List.setIfInBounds_toArray, List.set_cons_zero, List.set_cons_succ, i64_w, i32_w]
          rfl
         refine pure_ (i := 9) (N := some 55) (v := undef) (a' := ?_) #[true, true, true, true, true, true, true, true, true, true, false, false, false, false, false, false, false, false] rfl rfl (any_of HT_.out (by kernel_rfl)) (fun _ _ _ h => h) (Or.inr ⟨by rfl, rfl⟩) ?_ ?_
         rotate_left
         ·simp only [Act.put, List.setIfInBounds_toArray, List.set_cons_zero, List.set_cons_succ, i64_w, i32_w]
          rfl
         refine pure_ (i := 10) (N := some 56) (v := undef) (a' := ?_) #[true, true, true, true, true, true, true, true, true, true, true, false, false, false, false, false, false, false] rfl rfl (any_of HT_.out (by kernel_rfl)) (fun _ _ _ h => h) (Or.inr ⟨by rfl, rfl⟩) ?_ ?_
         rotate_left
         ·simp only [Act.put, List.setIfInBounds_toArray, List.set_cons_zero, List.set_cons_succ, i64_w, i32_w]
          rfl
         refine pure_ (i := 11) (N := some 57) (v := undef) (a' := ?_) #[true, true, true, true, true, true, true, true, true, true, true, true, false, false, false, false, false, false] rfl rfl (any_of HT_.out (by kernel_rfl)) (fun _ _ _ h => h) (Or.inr ⟨by rfl, rfl⟩) ?_ ?_
         rotate_left
         ·simp only [Act.put, List.setIfInBounds_toArray, List.set_cons_zero, List.set_cons_succ, i64_w, i32_w]
          rfl
         refine pure_ (i := 12) (N := some 58) (v := undef) (a' := ?_) #[true, true, true, true, true, true, true, true, true, true, true, true, true, false, false, false, false, false] rfl rfl (any_of HT_.out (by kernel_rfl)) (fun _ _ _ h => h) (Or.inr ⟨by rfl, rfl⟩) ?_ ?_
         rotate_left
         ·simp only [Act.put, List.setIfInBounds_toArray, List.set_cons_zero, List.set_cons_succ, i64_w, i32_w]
          rfl
         refine pure_ (i := 13) (N := some 59) (v := undef) (a' := ?_) #[true, true, true, true, true, true, true, true, true, true, true, true, true, true, false, false, false, false] rfl rfl (any_of HT_.out (by kernel_rfl)) (fun _ _ _ h => h) (Or.inr ⟨by rfl, rfl⟩) ?_ ?_
         rotate_left
         ·simp only [Act.put, List.setIfInBounds_toArray, List.set_cons_zero, List.set_cons_succ, i64_w, i32_w]
          rfl
         refine pure_ (i := 14) (N := some 60) (v := undef) (a' := ?_) #[true, true, true, true, true, true, true, true, true, true, true, true, true, true, true, false, false, false] rfl rfl (any_of HT_.out (by kernel_rfl)) (fun _ _ _ h => h) (Or.inr ⟨by rfl, rfl⟩) ?_ ?_
         rotate_left
         ·simp only [Act.put, List.setIfInBounds_toArray, List.set_cons_zero, List.set_cons_succ, i64_w, i32_w]
          rfl
         refine pure_ (i := 15) (N := some 61) (v := undef) (a' := ?_) #[true, true, true, true, true, true, true, true, true, true, true, true, true, true, true, true, false, false] rfl rfl (any_of HT_.out (by kernel_rfl)) (fun _ _ _ h => h) (Or.inr ⟨by rfl, rfl⟩) ?_ ?_
         rotate_left
         ·simp only [Act.put, List.setIfInBounds_toArray, List.set_cons_zero, List.set_cons_succ, i64_w, i32_w]
          rfl
         refine pure_ (i := 16) (N := some 62) (v := undef) (a' := ?_) #[true, true, true, true, true, true, true, true, true, true, true, true, true, true, true, true, true, false] rfl rfl (any_of HT_.out (by kernel_rfl)) (fun _ _ _ h => h) (Or.inr ⟨by rfl, rfl⟩) ?_ ?_
         rotate_left
         ·simp only [Act.put, List.setIfInBounds_toArray, List.set_cons_zero, List.set_cons_succ, i64_w, i32_w]
          rfl
         refine pure_ (i := 17) (N := some 63) (v := ?_) (a' := ?_) #[true, true, true, true, true, true, true, true, true, true, true, true, true, true, true, true, true, true] rfl rfl (any_of HT_.out (by kernel_rfl)) (fun _ _ _ h => h) (Or.inl ⟨by rfl, ?_⟩) ?_ ?_
         rotate_left
         ·intro w'
          go_simp
          with_reducible rfl
         rotate_left
         ·simp only [Act.put, List.setIfInBounds_toArray, List.set_cons_zero, List.set_cons_succ, i64_w, i32_w]
          rfl
         refine done_ (done_of HT_.out (by kernel_rfl)) ?_
         try go_wp2
         go_ret
         exact ⟨by first | rfl | (simp [errW_none, errW_some] <;> rfl) | (simp [*, errW_none, errW_some] <;> rfl), by repeat (first | (with_reducible first | exact HB.out | apply below_alloc | apply pw_below_drewN | apply below_drew1 | refine below_set ?_ GE407.out) | exact HB.out)⟩
        ·rw [if_neg c15] at H
         have c15b0 : decide (a1 < ((rd_T29 t400 x41_1).f0)) = false := decide_eq_false c15
         clear c15
         by_cases c20 : x41_1 > 0
         ·rw [if_pos c20] at H
          have c20b0 : decide (0 < x41_1) = true := decide_eq_true c20
          clear c20
          obtain ⟨ji21, hji21⟩ : ∃ j_ : Int, (wrap64 (x41_1 - 1)) = j_ := ⟨_, rfl⟩
          replace H : (if 0 ≤ (ji21) then (if (ji21) < (t400.length : Int) then ((bellmanref15_Ahead.f ((rd_T29 t400 (ji21)).f0) ((rd_T29 t400 (ji21)).f1) ((rd_T29 t400 (ji21)).f2) ((rd_T29 t400 (ji21)).f3) ((rd_T29 t400 x41_1).f0) ((rd_T29 t400 x41_1).f1) ((rd_T29 t400 x41_1).f2) ((rd_T29 t400 x41_1).f3)).bind fun t409 => (if t409 = true then (bellmanlaw16_DueLeft.l0 k1 l0 a1 t397 t400 t404 t405 t400 (t400.length : Int) (wrap64 (x41_1 + 1))) else (some false))) else (none)) else (none)) = some r := by first | (rw [hji21] at H; exact H) | (simp only [hji21] at H ⊢; exact H)
          have hji21w : (IntKind.i64.wrap (x41_1 - 1)) = ji21 := (i64_w _).trans hji21
          by_cases c22 : 0 ≤ (ji21)
          ·rw [if_pos c22] at H
           have c22b0 : decide (0 ≤ (ji21)) = true := decide_eq_true c22
           clear c22
           by_cases c23 : (ji21) < (t400.length : Int)
           ·rw [if_pos c23] at H
            have c23b0 : decide ((ji21) < (t400.length : Int)) = true := decide_eq_true c23
            clear c23
            replace H := Option.bind_eq_some_iff.mp H
            obtain ⟨t409, A240, H⟩ := H
            replace H : (if t409 = true then (bellmanlaw16_DueLeft.l0 k1 l0 a1 t397 t400 t404 t405 t400 (t400.length : Int) (wrap64 (x41_1 + 1))) else (some false)) = some r := H
            have A24 := Aside0.mk A240
            clear A240
            by_cases c25 : t409 = true
            ·subst c25
             have H1 : (bellmanlaw16_DueLeft.l0 k1 l0 a1 t397 t400 t404 t405 t400 (t400.length : Int) (wrap64 (x41_1 + 1))) = some r := by rw [if_pos rfl] at H; exact H
             clear H
             have H := H1
             clear H1
             have H' := Aside0.mk H
             clear H
             have p406 : 0 ≤ (x41_1 : Int) := of_decide_eq_true (by first | (with_reducible assumption) | assumption)
             have q406 : x41_1 < (t400.length : Int) := of_decide_eq_true (by first | (with_reducible assumption) | assumption)
             obtain ⟨ad406, e406, hx406_0, hx406_1, hx406_2, hx406_3⟩ := at_T29 (Kd.V_reads' HO_39.out).2.2 x41_1 p406 q406
             cases e406
             replace p406 := eq_true p406
             replace q406 := eq_true q406
             try go_wp2_with (first | ((with_reducible refine gate_dst (N := 11) rfl ?_); (try (refine gate_guard (by rfl) ?_; dsimp only)); refine box_event ?hg (N := 11) ?hd (cs := #[.int .i64 0, .int .i64 0, .int .u8 0, .int .i64 0]) (t := 29) ?hr ?_; (case hd => rfl); (case hg => rfl); (case hr => first | (go_simp; done) | (go_simp; rfl)); intro gb407 hg w26 hbox hb; have n0_ := Aside0.mk (Kd.V_below (Kd.V_elderB (by (with_reducible repeat (first | apply Kd.V_alloc | apply Kd.V_drewN | apply Kd.V_drew)); exact HO_5.out) gb407 (Nat.le_of_eq hg.symm)) hb); have n1_ := Aside0.mk (Kd.V_below (Kd.V_elderB (by (with_reducible repeat (first | apply Kd.V_alloc | apply Kd.V_drewN | apply Kd.V_drew)); exact HO_6.out) gb407 (Nat.le_of_eq hg.symm)) hb); have n2_ := Aside0.mk (Kd.V_below (Kd.V_elderB (by (with_reducible repeat (first | apply Kd.V_alloc | apply Kd.V_drewN | apply Kd.V_drew)); exact HO_39.out) gb407 (Nat.le_of_eq hg.symm)) hb); have n3_ := Aside0.mk (below_step (by repeat (first | (with_reducible first | exact HB.out | apply below_alloc | apply pw_below_drewN | apply below_drew1) | exact HB.out)) hb); have n4_ := Aside0.mk (hbox); have n5_ := Aside0.mk ((by rw [hg]; exact (below_size (by repeat (first | (with_reducible first | exact HB.out | apply below_alloc | apply pw_below_drewN | apply below_drew1) | exact HB.out))) : w.heap.size ≤ gb407)); have n6_ := Aside0.mk ((by rw [hg]; exact (below_size (by repeat (first | (with_reducible first | exact HB.out | apply below_alloc | apply pw_below_drewN | apply below_drew1) | exact HB.out))) : w.heap.size ≤ gb407)); clear HO_5; clear HO_6; clear HO_39; clear HB; have HO_5 := n0_; have HO_6 := n1_; have HO_39 := n2_; have HB := n3_; have BK407 := n4_; have GW407 := n5_; have GE407 := n6_; clear n0_ n1_ n2_ n3_ n4_ n5_ n6_; clear hb hbox hg; have hcz27_0 : w26.cell? ⟨gb407, 0, none⟩ = some (.int .i64 0) := (blk_cell BK407.out 0).trans rfl; have hcz27_1 : w26.cell? ⟨gb407, 1, none⟩ = some (.int .i64 0) := (blk_cell BK407.out 1).trans rfl; have hcz27_2 : w26.cell? ⟨gb407, 2, none⟩ = some (.int .u8 0) := (blk_cell BK407.out 2).trans rfl; have hcz27_3 : w26.cell? ⟨gb407, 3, none⟩ = some (.int .i64 0) := (blk_cell BK407.out 3).trans rfl; have hfz27_0 := blk_frozen BK407.out 0; have hfz27_1 := blk_frozen BK407.out 1; have hfz27_2 := blk_frozen BK407.out 2; have hfz27_3 := blk_frozen BK407.out 3))
             have n0_ : Aside0 (Kd.V k29 29 ((((w26.setCell ⟨gb407, 0, none⟩ (.int .i64 ((rd_T29 t400 x41_1).f0))).setCell ⟨gb407, 1, none⟩ (.int .i64 ((rd_T29 t400 x41_1).f1))).setCell ⟨gb407, 2, none⟩ (.int .u8 ((rd_T29 t400 x41_1).f2))).setCell ⟨gb407, 3, none⟩ (.int .i64 ((rd_T29 t400 x41_1).f3))) w.heap.size (fun k_ => k_ ≠ gb407) v398 t397) := ⟨by (with_reducible repeat (first | apply Kd.V_alloc | apply Kd.V_drewN | apply Kd.V_drew)); exact Kd.V_mono (Kd.V_far (p := ⟨gb407, 3, none⟩) (Kd.V_far (p := ⟨gb407, 2, none⟩) (Kd.V_far (p := ⟨gb407, 1, none⟩) (Kd.V_far (p := ⟨gb407, 0, none⟩) (Kd.V_mono HO_5.out (fun k_ hk => (⟨hk, hk.2⟩ : _ ∧ k_ ≠ gb407))) (fun _ hk => hk.2) (.int .i64 ((rd_T29 t400 x41_1).f0))) (fun _ hk => hk.2) (.int .i64 ((rd_T29 t400 x41_1).f1))) (fun _ hk => hk.2) (.int .u8 ((rd_T29 t400 x41_1).f2))) (fun _ hk => hk.2) (.int .i64 ((rd_T29 t400 x41_1).f3))) (fun _ hk => hk.1.2)⟩
             have n1_ : Aside0 (Kd.V k29 29 ((((w26.setCell ⟨gb407, 0, none⟩ (.int .i64 ((rd_T29 t400 x41_1).f0))).setCell ⟨gb407, 1, none⟩ (.int .i64 ((rd_T29 t400 x41_1).f1))).setCell ⟨gb407, 2, none⟩ (.int .u8 ((rd_T29 t400 x41_1).f2))).setCell ⟨gb407, 3, none⟩ (.int .i64 ((rd_T29 t400 x41_1).f3))) w.heap.size (fun k_ => k_ ≠ gb407) (.slice (some ad406) t400.length co11) t400) := ⟨by (with_reducible repeat (first | apply Kd.V_alloc | apply Kd.V_drewN | apply Kd.V_drew)); exact Kd.V_mono (Kd.V_far (p := ⟨gb407, 3, none⟩) (Kd.V_far (p := ⟨gb407, 2, none⟩) (Kd.V_far (p := ⟨gb407, 1, none⟩) (Kd.V_far (p := ⟨gb407, 0, none⟩) (Kd.V_mono HO_6.out (fun k_ hk => (⟨hk, hk.2⟩ : _ ∧ k_ ≠ gb407))) (fun _ hk => hk.2) (.int .i64 ((rd_T29 t400 x41_1).f0))) (fun _ hk => hk.2) (.int .i64 ((rd_T29 t400 x41_1).f1))) (fun _ hk => hk.2) (.int .u8 ((rd_T29 t400 x41_1).f2))) (fun _ hk => hk.2) (.int .i64 ((rd_T29 t400 x41_1).f3))) (fun _ hk => hk.1.2)⟩
             have n2_ : Aside0 (Kd.V k29 29 ((((w26.setCell ⟨gb407, 0, none⟩ (.int .i64 ((rd_T29 t400 x41_1).f0))).setCell ⟨gb407, 1, none⟩ (.int .i64 ((rd_T29 t400 x41_1).f1))).setCell ⟨gb407, 2, none⟩ (.int .u8 ((rd_T29 t400 x41_1).f2))).setCell ⟨gb407, 3, none⟩ (.int .i64 ((rd_T29 t400 x41_1).f3))) w.heap.size (fun k_ => k_ ≠ gb407) (.slice (some ad406) t400.length co11) t400) := ⟨by (with_reducible repeat (first | apply Kd.V_alloc | apply Kd.V_drewN | apply Kd.V_drew)); exact Kd.V_mono (Kd.V_far (p := ⟨gb407, 3, none⟩) (Kd.V_far (p := ⟨gb407, 2, none⟩) (Kd.V_far (p := ⟨gb407, 1, none⟩) (Kd.V_far (p := ⟨gb407, 0, none⟩) (Kd.V_mono HO_39.out (fun k_ hk => (⟨hk, hk.2⟩ : _ ∧ k_ ≠ gb407))) (fun _ hk => hk.2) (.int .i64 ((rd_T29 t400 x41_1).f0))) (fun _ hk => hk.2) (.int .i64 ((rd_T29 t400 x41_1).f1))) (fun _ hk => hk.2) (.int .u8 ((rd_T29 t400 x41_1).f2))) (fun _ hk => hk.2) (.int .i64 ((rd_T29 t400 x41_1).f3))) (fun _ hk => hk.1.2)⟩
             have n3_ : Aside0 (((((w26.setCell ⟨gb407, 0, none⟩ (.int .i64 ((rd_T29 t400 x41_1).f0))).setCell ⟨gb407, 1, none⟩ (.int .i64 ((rd_T29 t400 x41_1).f1))).setCell ⟨gb407, 2, none⟩ (.int .u8 ((rd_T29 t400 x41_1).f2))).setCell ⟨gb407, 3, none⟩ (.int .i64 ((rd_T29 t400 x41_1).f3))).heap[gb407]? = some (.cells #[.int .i64 ((rd_T29 t400 x41_1).f0), .int .i64 ((rd_T29 t400 x41_1).f1), .int .u8 ((rd_T29 t400 x41_1).f2), .int .i64 ((rd_T29 t400 x41_1).f3)] 29 (0, 0))) := ⟨by (with_reducible repeat (first | refine blk_drewN ?_ _ | refine blk_drew ?_ | refine blk_alloc ?_ _)); refine blk_put (cs := #[.int .i64 ((rd_T29 t400 x41_1).f0), .int .i64 ((rd_T29 t400 x41_1).f1), .int .u8 ((rd_T29 t400 x41_1).f2), .int .i64 0]) ?_ 3 _ rfl; (with_reducible repeat (first | refine blk_drewN ?_ _ | refine blk_drew ?_ | refine blk_alloc ?_ _)); refine blk_put (cs := #[.int .i64 ((rd_T29 t400 x41_1).f0), .int .i64 ((rd_T29 t400 x41_1).f1), .int .u8 0, .int .i64 0]) ?_ 2 _ rfl; (with_reducible repeat (first | refine blk_drewN ?_ _ | refine blk_drew ?_ | refine blk_alloc ?_ _)); refine blk_put (cs := #[.int .i64 ((rd_T29 t400 x41_1).f0), .int .i64 0, .int .u8 0, .int .i64 0]) ?_ 1 _ rfl; (with_reducible repeat (first | refine blk_drewN ?_ _ | refine blk_drew ?_ | refine blk_alloc ?_ _)); refine blk_put (cs := #[.int .i64 0, .int .i64 0, .int .u8 0, .int .i64 0]) ?_ 0 _ rfl; (with_reducible repeat (first | refine blk_drewN ?_ _ | refine blk_drew ?_ | refine blk_alloc ?_ _)); exact BK407.out⟩
             have n4_ : Aside0 (Below w.heap.size w ((((w26.setCell ⟨gb407, 0, none⟩ (.int .i64 ((rd_T29 t400 x41_1).f0))).setCell ⟨gb407, 1, none⟩ (.int .i64 ((rd_T29 t400 x41_1).f1))).setCell ⟨gb407, 2, none⟩ (.int .u8 ((rd_T29 t400 x41_1).f2))).setCell ⟨gb407, 3, none⟩ (.int .i64 ((rd_T29 t400 x41_1).f3)))) := ⟨by repeat (first | (with_reducible first | exact HB.out | apply below_alloc | apply pw_below_drewN | apply below_drew1 | refine below_set ?_ GE407.out) | exact HB.out)⟩
             (try clear HO_5)
             (try clear HO_6)
             (try clear HO_39)
             (try clear BK407)
             (try clear HB)
             generalize ((((w26.setCell ⟨gb407, 0, none⟩ (.int .i64 ((rd_T29 t400 x41_1).f0))).setCell ⟨gb407, 1, none⟩ (.int .i64 ((rd_T29 t400 x41_1).f1))).setCell ⟨gb407, 2, none⟩ (.int .u8 ((rd_T29 t400 x41_1).f2))).setCell ⟨gb407, 3, none⟩ (.int .i64 ((rd_T29 t400 x41_1).f3))) = w28 at n0_ n1_ n2_ n3_ n4_ ⊢
             have HO_5 := n0_
             have HO_6 := n1_
             have HO_39 := n2_
             have BK407 := n3_
             have HB := n4_
             clear n0_ n1_ n2_ n3_ n4_
             have n0_ := Aside0.mk (Kd.V_drew HO_5.out)
             have n1_ := Aside0.mk (Kd.V_drew HO_6.out)
             have n2_ := Aside0.mk (Kd.V_drew HO_39.out)
             have n3_ := Aside0.mk (blk_drew BK407.out)
             have n4_ := Aside0.mk (below_drew1 HB.out)
             clear HO_5
             clear HO_6
             clear HO_39
             clear BK407
             clear HB
             have HO_5 := n0_
             have HO_6 := n1_
             have HO_39 := n2_
             have BK407 := n3_
             have HB := n4_
             clear n0_ n1_ n2_ n3_ n4_
             have p408 : 0 ≤ ((ji21) : Int) := of_decide_eq_true (by first | (with_reducible assumption) | assumption)
             have q408 : (ji21) < (t400.length : Int) := of_decide_eq_true (by first | (with_reducible assumption) | assumption)
             obtain ⟨ad408, e408, hx408_0, hx408_1, hx408_2, hx408_3⟩ := at_T29 (Kd.V_reads' HO_6.out).2.2 (ji21) p408 q408
             obtain rfl : ad406 = ad408 := (by injection e408)
             replace p408 := eq_true p408
             replace q408 := eq_true q408
             refine start_ (n := 18) (S := fun w' => w'.cell? ⟨gb407, 0, none⟩ = some (.int .i64 ((rd_T29 t400 x41_1).f0)) ∧ w'.cell? ⟨gb407, 1, none⟩ = some (.int .i64 ((rd_T29 t400 x41_1).f1)) ∧ w'.cell? ⟨gb407, 2, none⟩ = some (.int .u8 ((rd_T29 t400 x41_1).f2)) ∧ w'.cell? ⟨gb407, 3, none⟩ = some (.int .i64 ((rd_T29 t400 x41_1).f3)) ∧ w'.cell? (ad406.add (((ji21)).toNat * 4)) = some (.int .i64 ((rd_T29 t400 (ji21)).f0)) ∧ w'.cell? ⟨(ad406.add (((ji21)).toNat * 4)).block, (ad406.add (((ji21)).toNat * 4)).off + 1, none⟩ = some (.int .i64 ((rd_T29 t400 (ji21)).f1)) ∧ w'.cell? ⟨(ad406.add (((ji21)).toNat * 4)).block, (ad406.add (((ji21)).toNat * 4)).off + 2, none⟩ = some (.int .u8 ((rd_T29 t400 (ji21)).f2)) ∧ w'.cell? ⟨(ad406.add (((ji21)).toNat * 4)).block, (ad406.add (((ji21)).toNat * 4)).off + 3, none⟩ = some (.int .i64 ((rd_T29 t400 (ji21)).f3))) (ds := []) #[false, false, false, false, false, false, false, false, false, false, false, false, false, false, false, false, false, false] (by kernel_rfl) rfl rfl ⟨(blk_cell BK407.out 0).trans rfl, (blk_cell BK407.out 1).trans rfl, (blk_cell BK407.out 2).trans rfl, (blk_cell BK407.out 3).trans rfl, hx408_0, hx408_1, hx408_2, hx408_3⟩ (fun hHeld => ?_); refine with_tabW bellmanlaw16_DueLeft.tab10 bellmanlaw16_DueLeft.bits10 (fun HT_ HW_ => ?_)
             generalize w28.drew = w29 at HO_5 HO_6 HO_39 BK407 HB hx408_0 hx408_1 hx408_2 hx408_3 hHeld ⊢
             refine pure_ (i := 0) (N := some 46) (v := ?_) (a' := ?_) #[true, false, false, false, false, false, false, false, false, false, false, false, false, false, false, false, false, false] rfl rfl (any_of HT_.out (by kernel_rfl)) (fun _ _ _ h => h) (Or.inl ⟨by rfl, ?_⟩) ?_ ?_
             rotate_left
             ·intro w'
              go_simp
              with_reducible rfl
             rotate_left
             ·simp only [Act.put, List.setIfInBounds_toArray, List.set_cons_zero, List.set_cons_succ, i64_w, i32_w]
              rfl
             refine pure_ (i := 2) (N := some 48) (v := ?_) (a' := ?_) #[true, false, true, false, false, false, false, false, false, false, false, false, false, false, false, false, false, false] rfl rfl (any_of HT_.out (by kernel_rfl)) (fun _ _ _ h => h) (Or.inl ⟨by rfl, ?_⟩) ?_ ?_
             rotate_left
             ·intro w'
              go_simp
              with_reducible rfl
             rotate_left
             ·simp only [Act.put, List.setIfInBounds_toArray, List.set_cons_zero, List.set_cons_succ, i64_w, i32_w]
              rfl
             refine take_ (i := 1) (N := some 47) (v := ?_) (a' := ?_) #[true, true, true, false, false, false, false, false, false, false, false, false, false, false, false, false, false, false] rfl rfl (take_ofW HT_.out HW_.out (by kernel_rfl)) (fun _ _ _ h => h) (Or.inl ⟨by rfl, ?_⟩) hHeld ?_ ?_
             rotate_left
             ·rintro w' ⟨s0, s1, s2, s3, s4, s5, s6, s7⟩
              go_simp
              with_reducible rfl
             rotate_left
             ·simp only [Act.put, List.setIfInBounds_toArray, List.set_cons_zero, List.set_cons_succ, i64_w, i32_w]
              rfl
             refine pure_ (i := 3) (N := some 49) (v := ?_) (a' := ?_) #[true, true, true, true, false, false, false, false, false, false, false, false, false, false, false, false, false, false] rfl rfl (any_of HT_.out (by kernel_rfl)) (fun _ _ _ h => h) (Or.inl ⟨by rfl, ?_⟩) ?_ ?_
             rotate_left
             ·intro w'
              go_simp
              with_reducible rfl
             rotate_left
             ·simp only [Act.put, List.setIfInBounds_toArray, List.set_cons_zero, List.set_cons_succ, i64_w, i32_w]
              rfl
             refine pure_ (i := 4) (N := some 50) (v := ?_) (a' := ?_) #[true, true, true, true, true, false, false, false, false, false, false, false, false, false, false, false, false, false] rfl rfl (any_of HT_.out (by kernel_rfl)) (fun _ _ _ h => h) (Or.inl ⟨by rfl, ?_⟩) ?_ ?_
             rotate_left
             ·intro w'
              go_simp
              with_reducible rfl
             rotate_left
             ·simp only [Act.put, List.setIfInBounds_toArray, List.set_cons_zero, List.set_cons_succ, i64_w, i32_w]
              rfl
             refine pure_ (i := 5) (N := some 51) (v := ?_) (a' := ?_) #[true, true, true, true, true, true, false, false, false, false, false, false, false, false, false, false, false, false] rfl rfl (any_of HT_.out (by kernel_rfl)) (fun _ _ _ h => h) (Or.inl ⟨by rfl, ?_⟩) ?_ ?_
             rotate_left
             ·intro w'
              go_simp
              with_reducible rfl
             rotate_left
             ·simp only [Act.put, List.setIfInBounds_toArray, List.set_cons_zero, List.set_cons_succ, i64_w, i32_w]
              rfl
             refine pure_ (i := 6) (N := some 52) (v := ?_) (a' := ?_) #[true, true, true, true, true, true, true, false, false, false, false, false, false, false, false, false, false, false] rfl rfl (any_of HT_.out (by kernel_rfl)) (fun _ _ _ h => h) (Or.inl ⟨by rfl, ?_⟩) ?_ ?_
             rotate_left
             ·intro w'
              go_simp
              with_reducible rfl
             rotate_left
             ·simp only [Act.put, List.setIfInBounds_toArray, List.set_cons_zero, List.set_cons_succ, i64_w, i32_w]
              rfl
             refine pure_ (i := 7) (N := some 53) (v := ?_) (a' := ?_) #[true, true, true, true, true, true, true, true, false, false, false, false, false, false, false, false, false, false] rfl rfl (any_of HT_.out (by kernel_rfl)) (fun _ _ _ h => h) (Or.inl ⟨by rfl, ?_⟩) ?_ ?_
             rotate_left
             ·intro w'
              go_simp
              with_reducible rfl
             rotate_left
             ·simp only [Act.put, List.setIfInBounds_toArray, List.set_cons_zero, List.set_cons_succ, i64_w, i32_w]
              rfl
             refine pure_ (i := 8) (N := some 54) (v := ?_) (a' := ?_) #[true, true, true, true, true, true, true, true, true, false, false, false, false, false, false, false, false, false] rfl rfl (any_of HT_.out (by kernel_rfl)) (fun _ _ _ h => h) (Or.inl ⟨by rfl, ?_⟩) ?_ ?_
             rotate_left
             ·intro w'
              go_simp
              with_reducible rfl
             rotate_left
             ·simp only [Act.put, List.setIfInBounds_toArray, List.set_cons_zero, List.set_cons_succ, i64_w, i32_w]
              rfl
             refine pure_ (i := 9) (N := some 55) (v := ?_) (a' := ?_) #[true, true, true, true, true, true, true, true, true, true, false, false, false, false, false, false, false, false] rfl rfl (any_of HT_.out (by kernel_rfl)) (fun _ _ _ h => h) (Or.inl ⟨by rfl, ?_⟩) ?_ ?_
             rotate_left
             ·intro w'
              go_simp
              with_reducible rfl
             rotate_left
             ·simp only [Act.put, List.setIfInBounds_toArray, List.set_cons_zero, List.set_cons_succ, i64_w, i32_w]
              rfl
             refine pure_ (i := 10) (N := some 56) (v := ?_) (a' := ?_) #[true, true, true, true, true, true, true, true, true, true, true, false, false, false, false, false, false, false] rfl rfl (any_of HT_.out (by kernel_rfl)) (fun _ _ _ h => h) (Or.inl ⟨by rfl, ?_⟩) ?_ ?_
             rotate_left
             ·intro w'
              go_simp
              with_reducible rfl
             rotate_left
             ·simp only [Act.put, List.setIfInBounds_toArray, List.set_cons_zero, List.set_cons_succ, i64_w, i32_w]
              rfl
             refine pure_ (i := 11) (N := some 57) (v := ?_) (a' := ?_) #[true, true, true, true, true, true, true, true, true, true, true, true, false, false, false, false, false, false] rfl rfl (any_of HT_.out (by kernel_rfl)) (fun _ _ _ h => h) (Or.inl ⟨by rfl, ?_⟩) ?_ ?_
             rotate_left
             ·intro w'
              go_simp
              with_reducible rfl
             rotate_left
             ·simp only [Act.put, List.setIfInBounds_toArray, List.set_cons_zero, List.set_cons_succ, i64_w, i32_w]
              rfl
             refine take_ (i := 12) (N := some 58) (v := ?_) (a' := ?_) #[true, true, true, true, true, true, true, true, true, true, true, true, true, false, false, false, false, false] rfl rfl (take_ofW HT_.out HW_.out (by kernel_rfl)) (fun _ _ _ h => h) (Or.inl ⟨by rfl, ?_⟩) hHeld ?_ ?_
             rotate_left
             ·rintro w' ⟨s0, s1, s2, s3, s4, s5, s6, s7⟩
              go_simp
              with_reducible rfl
             rotate_left
             ·simp only [Act.put, List.setIfInBounds_toArray, List.set_cons_zero, List.set_cons_succ, i64_w, i32_w]
              rfl
             refine take_ (i := 13) (N := some 59) (v := ?_) (a' := ?_) #[true, true, true, true, true, true, true, true, true, true, true, true, true, true, false, false, false, false] rfl rfl (take_ofW HT_.out HW_.out (by kernel_rfl)) (fun _ _ _ h => h) (Or.inl ⟨by rfl, ?_⟩) hHeld ?_ ?_
             rotate_left
             ·rintro w' ⟨s0, s1, s2, s3, s4, s5, s6, s7⟩
              go_simp
              with_reducible rfl
             rotate_left
             ·simp only [Act.put, List.setIfInBounds_toArray, List.set_cons_zero, List.set_cons_succ, i64_w, i32_w]
              rfl
             refine one_ (i := 14) (N := some 60) #[true, true, true, true, true, true, true, true, true, true, true, true, true, true, true, false, false, false] rfl rfl (one_of HT_.out (by kernel_rfl)) (by decide) (fun K hK => ?_)
             refine goes_ Try.func26 (by kernel_rfl) rfl #[.agg #[.int .i64 ((rd_T29 t400 (ji21)).f0), .int .i64 ((rd_T29 t400 (ji21)).f1), .int .u8 ((rd_T29 t400 (ji21)).f2), .int .i64 ((rd_T29 t400 (ji21)).f3)], .agg #[.int .i64 ((rd_T29 t400 x41_1).f0), .int .i64 ((rd_T29 t400 x41_1).f1), .int .u8 ((rd_T29 t400 x41_1).f2), .int .i64 ((rd_T29 t400 x41_1).f3)]] (by rfl) rfl rfl (by (try simp only [List.map_toArray, List.map_cons, List.map_nil]); first | done | (simp only [hji21]; rfl) | rfl | (simp only [List.length_drop, List.length_take]; rfl)) ?_
             with_reducible refine (bellmanref15_Ahead.calls ((rd_T29 t400 (ji21)).f0) ((rd_T29 t400 (ji21)).f1) ((rd_T29 t400 (ji21)).f2) ((rd_T29 t400 (ji21)).f3) ((rd_T29 t400 x41_1).f0) ((rd_T29 t400 x41_1).f1) ((rd_T29 t400 x41_1).f2) ((rd_T29 t400 x41_1).f3) true _ A24.out).mono ?_
             rintro e w30 ⟨rfl, hb⟩
             have HS4_ := (hb.cell (World.block_lt_of_cell? _ _ (hHeld.2.2.2.2.1))).trans (hHeld.2.2.2.2.1)
             have HS5_ := (hb.cell (World.block_lt_of_cell? _ _ (hHeld.2.2.2.2.2.1))).trans (hHeld.2.2.2.2.2.1)
             have HS6_ := (hb.cell (World.block_lt_of_cell? _ _ (hHeld.2.2.2.2.2.2.1))).trans (hHeld.2.2.2.2.2.2.1)
             have HS7_ := (hb.cell (World.block_lt_of_cell? _ _ (hHeld.2.2.2.2.2.2.2))).trans (hHeld.2.2.2.2.2.2.2)
             refine ⟨_, rfl, ?_⟩
             have n0_ := Aside0.mk (Kd.V_below (by (with_reducible repeat (first | apply Kd.V_alloc | apply Kd.V_drewN | apply Kd.V_drew)); exact HO_5.out) hb)
             have n1_ := Aside0.mk (Kd.V_below (by (with_reducible repeat (first | apply Kd.V_alloc | apply Kd.V_drewN | apply Kd.V_drew)); exact HO_6.out) hb)
             have n2_ := Aside0.mk (Kd.V_below (by (with_reducible repeat (first | apply Kd.V_alloc | apply Kd.V_drewN | apply Kd.V_drew)); exact HO_39.out) hb)
             have n3_ := Aside0.mk (blk_below (g := gb407) (o := .cells #[.int .i64 ((rd_T29 t400 x41_1).f0), .int .i64 ((rd_T29 t400 x41_1).f1), .int .u8 ((rd_T29 t400 x41_1).f2), .int .i64 ((rd_T29 t400 x41_1).f3)] 29 (0, 0)) (by (with_reducible repeat (first | refine blk_drewN ?_ _ | refine blk_drew ?_ | refine blk_alloc ?_ _)); exact BK407.out) hb)
             have n4_ := Aside0.mk (below_step (by repeat (first | (with_reducible first | exact HB.out | apply below_alloc | apply pw_below_drewN | apply below_drew1 | refine below_set ?_ GE407.out) | exact HB.out)) hb)
             clear HO_5
             clear HO_6
             clear HO_39
             clear BK407
             clear HB
             have HO_5 := n0_
             have HO_6 := n1_
             have HO_39 := n2_
             have BK407 := n3_
             have HB := n4_
             clear n0_ n1_ n2_ n3_ n4_
             (try clear hb)
             (try clear hb2)
             (try clear hk)
             (try clear hi)
             refine hK.out _ _ ⟨(blk_cell BK407.out 0).trans rfl, (blk_cell BK407.out 1).trans rfl, (blk_cell BK407.out 2).trans rfl, (blk_cell BK407.out 3).trans rfl, HS4_, HS5_, HS6_, HS7_⟩ (fun hHeld => ?_)
             clear hK K
             refine norm_ (a' := ?_) ?_ ?_
             rotate_left
             ·show Act.put _ (some 60) _ = _
              simp only [Act.put, List.setIfInBounds_toArray, List.set_cons_zero, List.set_cons_succ, i64_w, i32_w]
              rfl
             refine pure_ (i := 15) (N := some 61) (v := ?_) (a' := ?_) #[true, true, true, true, true, true, true, true, true, true, true, true, true, true, true, true, false, false] rfl rfl (any_of HT_.out (by kernel_rfl)) (fun _ _ _ h => h) (Or.inl ⟨by rfl, ?_⟩) ?_ ?_
             rotate_left
             ·intro w'
              go_simp
              with_reducible rfl
             rotate_left
             ·simp only [Act.put, List.setIfInBounds_toArray, List.set_cons_zero, List.set_cons_succ, i64_w, i32_w]
              rfl
             refine pure_ (i := 16) (N := some 62) (v := ?_) (a' := ?_) #[true, true, true, true, true, true, true, true, true, true, true, true, true, true, true, true, true, false] rfl rfl (any_of HT_.out (by kernel_rfl)) (fun _ _ _ h => h) (Or.inl ⟨by rfl, ?_⟩) ?_ ?_
             rotate_left
             ·intro w'
              go_simp
              with_reducible rfl
             rotate_left
             ·simp only [Act.put, List.setIfInBounds_toArray, List.set_cons_zero, List.set_cons_succ, i64_w, i32_w]
              rfl
             refine pure_ (i := 17) (N := some 63) (v := ?_) (a' := ?_) #[true, true, true, true, true, true, true, true, true, true, true, true, true, true, true, true, true, true] rfl rfl (any_of HT_.out (by kernel_rfl)) (fun _ _ _ h => h) (Or.inl ⟨by rfl, ?_⟩) ?_ ?_
             rotate_left
             ·intro w'
              go_simp
              with_reducible rfl
             rotate_left
             ·simp only [Act.put, List.setIfInBounds_toArray, List.set_cons_zero, List.set_cons_succ, i64_w, i32_w]
              rfl
             refine done_ (done_of HT_.out (by kernel_rfl)) ?_
             try go_wp2
             go_roundg k1
             case measure => have := HK1.out; omega
             case rel => exact ⟨(wrap64 (x41_1 + 1)), (by first | rfl | (simp; done) | (simp [*]; done)), H', ⟨by have := HK1.out; omega⟩, ⟨by (with_reducible repeat (first | apply Kd.V_alloc | apply Kd.V_drewN | apply Kd.V_drew)); exact Kd.V_mono HO_5.out (fun _ hk => trivial)⟩, ⟨by (with_reducible repeat (first | apply Kd.V_alloc | apply Kd.V_drewN | apply Kd.V_drew)); exact Kd.V_mono HO_6.out (fun _ hk => trivial)⟩, ⟨by (with_reducible repeat (first | apply Kd.V_alloc | apply Kd.V_drewN | apply Kd.V_drew)); exact Kd.V_mono HO_39.out (fun _ hk => trivial)⟩, ⟨by repeat (first | (with_reducible first | exact HB.out | apply below_alloc | apply pw_below_drewN | apply below_drew1 | refine below_set ?_ GE407.out) | exact HB.out)⟩⟩
            ·replace c25 := Bool.eq_false_iff.mpr c25
             subst c25
             have H1 : (some false) = some r := by rw [if_neg (show ¬ (false = true) by decide)] at H; exact H
             clear H
             have H := H1
             clear H1
             obtain rfl := Option.some.inj H
             have p406 : 0 ≤ (x41_1 : Int) := of_decide_eq_true (by first | (with_reducible assumption) | assumption)
             have q406 : x41_1 < (t400.length : Int) := of_decide_eq_true (by first | (with_reducible assumption) | assumption)
             obtain ⟨ad406, e406, hx406_0, hx406_1, hx406_2, hx406_3⟩ := at_T29 (Kd.V_reads' HO_39.out).2.2 x41_1 p406 q406
             cases e406
             replace p406 := eq_true p406
             replace q406 := eq_true q406
             try go_wp2_with (first | ((with_reducible refine gate_dst (N := 11) rfl ?_); (try (refine gate_guard (by rfl) ?_; dsimp only)); refine box_event ?hg (N := 11) ?hd (cs := #[.int .i64 0, .int .i64 0, .int .u8 0, .int .i64 0]) (t := 29) ?hr ?_; (case hd => rfl); (case hg => rfl); (case hr => first | (go_simp; done) | (go_simp; rfl)); intro gb407 hg w31 hbox hb; have n0_ := Aside0.mk (Kd.V_below (Kd.V_elderB (by (with_reducible repeat (first | apply Kd.V_alloc | apply Kd.V_drewN | apply Kd.V_drew)); exact HO_5.out) gb407 (Nat.le_of_eq hg.symm)) hb); have n1_ := Aside0.mk (Kd.V_below (Kd.V_elderB (by (with_reducible repeat (first | apply Kd.V_alloc | apply Kd.V_drewN | apply Kd.V_drew)); exact HO_6.out) gb407 (Nat.le_of_eq hg.symm)) hb); have n2_ := Aside0.mk (Kd.V_below (Kd.V_elderB (by (with_reducible repeat (first | apply Kd.V_alloc | apply Kd.V_drewN | apply Kd.V_drew)); exact HO_39.out) gb407 (Nat.le_of_eq hg.symm)) hb); have n3_ := Aside0.mk (below_step (by repeat (first | (with_reducible first | exact HB.out | apply below_alloc | apply pw_below_drewN | apply below_drew1) | exact HB.out)) hb); have n4_ := Aside0.mk (hbox); have n5_ := Aside0.mk ((by rw [hg]; exact (below_size (by repeat (first | (with_reducible first | exact HB.out | apply below_alloc | apply pw_below_drewN | apply below_drew1) | exact HB.out))) : w.heap.size ≤ gb407)); have n6_ := Aside0.mk ((by rw [hg]; exact (below_size (by repeat (first | (with_reducible first | exact HB.out | apply below_alloc | apply pw_below_drewN | apply below_drew1) | exact HB.out))) : w.heap.size ≤ gb407)); clear HO_5; clear HO_6; clear HO_39; clear HB; have HO_5 := n0_; have HO_6 := n1_; have HO_39 := n2_; have HB := n3_; have BK407 := n4_; have GW407 := n5_; have GE407 := n6_; clear n0_ n1_ n2_ n3_ n4_ n5_ n6_; clear hb hbox hg; have hcz32_0 : w31.cell? ⟨gb407, 0, none⟩ = some (.int .i64 0) := (blk_cell BK407.out 0).trans rfl; have hcz32_1 : w31.cell? ⟨gb407, 1, none⟩ = some (.int .i64 0) := (blk_cell BK407.out 1).trans rfl; have hcz32_2 : w31.cell? ⟨gb407, 2, none⟩ = some (.int .u8 0) := (blk_cell BK407.out 2).trans rfl; have hcz32_3 : w31.cell? ⟨gb407, 3, none⟩ = some (.int .i64 0) := (blk_cell BK407.out 3).trans rfl; have hfz32_0 := blk_frozen BK407.out 0; have hfz32_1 := blk_frozen BK407.out 1; have hfz32_2 := blk_frozen BK407.out 2; have hfz32_3 := blk_frozen BK407.out 3))
             have n0_ : Aside0 (Kd.V k29 29 ((((w31.setCell ⟨gb407, 0, none⟩ (.int .i64 ((rd_T29 t400 x41_1).f0))).setCell ⟨gb407, 1, none⟩ (.int .i64 ((rd_T29 t400 x41_1).f1))).setCell ⟨gb407, 2, none⟩ (.int .u8 ((rd_T29 t400 x41_1).f2))).setCell ⟨gb407, 3, none⟩ (.int .i64 ((rd_T29 t400 x41_1).f3))) w.heap.size (fun k_ => k_ ≠ gb407) v398 t397) := ⟨by (with_reducible repeat (first | apply Kd.V_alloc | apply Kd.V_drewN | apply Kd.V_drew)); exact Kd.V_mono (Kd.V_far (p := ⟨gb407, 3, none⟩) (Kd.V_far (p := ⟨gb407, 2, none⟩) (Kd.V_far (p := ⟨gb407, 1, none⟩) (Kd.V_far (p := ⟨gb407, 0, none⟩) (Kd.V_mono HO_5.out (fun k_ hk => (⟨hk, hk.2⟩ : _ ∧ k_ ≠ gb407))) (fun _ hk => hk.2) (.int .i64 ((rd_T29 t400 x41_1).f0))) (fun _ hk => hk.2) (.int .i64 ((rd_T29 t400 x41_1).f1))) (fun _ hk => hk.2) (.int .u8 ((rd_T29 t400 x41_1).f2))) (fun _ hk => hk.2) (.int .i64 ((rd_T29 t400 x41_1).f3))) (fun _ hk => hk.1.2)⟩
             have n1_ : Aside0 (Kd.V k29 29 ((((w31.setCell ⟨gb407, 0, none⟩ (.int .i64 ((rd_T29 t400 x41_1).f0))).setCell ⟨gb407, 1, none⟩ (.int .i64 ((rd_T29 t400 x41_1).f1))).setCell ⟨gb407, 2, none⟩ (.int .u8 ((rd_T29 t400 x41_1).f2))).setCell ⟨gb407, 3, none⟩ (.int .i64 ((rd_T29 t400 x41_1).f3))) w.heap.size (fun k_ => k_ ≠ gb407) (.slice (some ad406) t400.length co11) t400) := ⟨by (with_reducible repeat (first | apply Kd.V_alloc | apply Kd.V_drewN | apply Kd.V_drew)); exact Kd.V_mono (Kd.V_far (p := ⟨gb407, 3, none⟩) (Kd.V_far (p := ⟨gb407, 2, none⟩) (Kd.V_far (p := ⟨gb407, 1, none⟩) (Kd.V_far (p := ⟨gb407, 0, none⟩) (Kd.V_mono HO_6.out (fun k_ hk => (⟨hk, hk.2⟩ : _ ∧ k_ ≠ gb407))) (fun _ hk => hk.2) (.int .i64 ((rd_T29 t400 x41_1).f0))) (fun _ hk => hk.2) (.int .i64 ((rd_T29 t400 x41_1).f1))) (fun _ hk => hk.2) (.int .u8 ((rd_T29 t400 x41_1).f2))) (fun _ hk => hk.2) (.int .i64 ((rd_T29 t400 x41_1).f3))) (fun _ hk => hk.1.2)⟩
             have n2_ : Aside0 (Kd.V k29 29 ((((w31.setCell ⟨gb407, 0, none⟩ (.int .i64 ((rd_T29 t400 x41_1).f0))).setCell ⟨gb407, 1, none⟩ (.int .i64 ((rd_T29 t400 x41_1).f1))).setCell ⟨gb407, 2, none⟩ (.int .u8 ((rd_T29 t400 x41_1).f2))).setCell ⟨gb407, 3, none⟩ (.int .i64 ((rd_T29 t400 x41_1).f3))) w.heap.size (fun k_ => k_ ≠ gb407) (.slice (some ad406) t400.length co11) t400) := ⟨by (with_reducible repeat (first | apply Kd.V_alloc | apply Kd.V_drewN | apply Kd.V_drew)); exact Kd.V_mono (Kd.V_far (p := ⟨gb407, 3, none⟩) (Kd.V_far (p := ⟨gb407, 2, none⟩) (Kd.V_far (p := ⟨gb407, 1, none⟩) (Kd.V_far (p := ⟨gb407, 0, none⟩) (Kd.V_mono HO_39.out (fun k_ hk => (⟨hk, hk.2⟩ : _ ∧ k_ ≠ gb407))) (fun _ hk => hk.2) (.int .i64 ((rd_T29 t400 x41_1).f0))) (fun _ hk => hk.2) (.int .i64 ((rd_T29 t400 x41_1).f1))) (fun _ hk => hk.2) (.int .u8 ((rd_T29 t400 x41_1).f2))) (fun _ hk => hk.2) (.int .i64 ((rd_T29 t400 x41_1).f3))) (fun _ hk => hk.1.2)⟩
             have n3_ : Aside0 (((((w31.setCell ⟨gb407, 0, none⟩ (.int .i64 ((rd_T29 t400 x41_1).f0))).setCell ⟨gb407, 1, none⟩ (.int .i64 ((rd_T29 t400 x41_1).f1))).setCell ⟨gb407, 2, none⟩ (.int .u8 ((rd_T29 t400 x41_1).f2))).setCell ⟨gb407, 3, none⟩ (.int .i64 ((rd_T29 t400 x41_1).f3))).heap[gb407]? = some (.cells #[.int .i64 ((rd_T29 t400 x41_1).f0), .int .i64 ((rd_T29 t400 x41_1).f1), .int .u8 ((rd_T29 t400 x41_1).f2), .int .i64 ((rd_T29 t400 x41_1).f3)] 29 (0, 0))) := ⟨by (with_reducible repeat (first | refine blk_drewN ?_ _ | refine blk_drew ?_ | refine blk_alloc ?_ _)); refine blk_put (cs := #[.int .i64 ((rd_T29 t400 x41_1).f0), .int .i64 ((rd_T29 t400 x41_1).f1), .int .u8 ((rd_T29 t400 x41_1).f2), .int .i64 0]) ?_ 3 _ rfl; (with_reducible repeat (first | refine blk_drewN ?_ _ | refine blk_drew ?_ | refine blk_alloc ?_ _)); refine blk_put (cs := #[.int .i64 ((rd_T29 t400 x41_1).f0), .int .i64 ((rd_T29 t400 x41_1).f1), .int .u8 0, .int .i64 0]) ?_ 2 _ rfl; (with_reducible repeat (first | refine blk_drewN ?_ _ | refine blk_drew ?_ | refine blk_alloc ?_ _)); refine blk_put (cs := #[.int .i64 ((rd_T29 t400 x41_1).f0), .int .i64 0, .int .u8 0, .int .i64 0]) ?_ 1 _ rfl; (with_reducible repeat (first | refine blk_drewN ?_ _ | refine blk_drew ?_ | refine blk_alloc ?_ _)); refine blk_put (cs := #[.int .i64 0, .int .i64 0, .int .u8 0, .int .i64 0]) ?_ 0 _ rfl; (with_reducible repeat (first | refine blk_drewN ?_ _ | refine blk_drew ?_ | refine blk_alloc ?_ _)); exact BK407.out⟩
             have n4_ : Aside0 (Below w.heap.size w ((((w31.setCell ⟨gb407, 0, none⟩ (.int .i64 ((rd_T29 t400 x41_1).f0))).setCell ⟨gb407, 1, none⟩ (.int .i64 ((rd_T29 t400 x41_1).f1))).setCell ⟨gb407, 2, none⟩ (.int .u8 ((rd_T29 t400 x41_1).f2))).setCell ⟨gb407, 3, none⟩ (.int .i64 ((rd_T29 t400 x41_1).f3)))) := ⟨by repeat (first | (with_reducible first | exact HB.out | apply below_alloc | apply pw_below_drewN | apply below_drew1 | refine below_set ?_ GE407.out) | exact HB.out)⟩
             (try clear HO_5)
             (try clear HO_6)
             (try clear HO_39)
             (try clear BK407)
             (try clear HB)
             generalize ((((w31.setCell ⟨gb407, 0, none⟩ (.int .i64 ((rd_T29 t400 x41_1).f0))).setCell ⟨gb407, 1, none⟩ (.int .i64 ((rd_T29 t400 x41_1).f1))).setCell ⟨gb407, 2, none⟩ (.int .u8 ((rd_T29 t400 x41_1).f2))).setCell ⟨gb407, 3, none⟩ (.int .i64 ((rd_T29 t400 x41_1).f3))) = w33 at n0_ n1_ n2_ n3_ n4_ ⊢
             have HO_5 := n0_
             have HO_6 := n1_
             have HO_39 := n2_
             have BK407 := n3_
             have HB := n4_
             clear n0_ n1_ n2_ n3_ n4_
             have n0_ := Aside0.mk (Kd.V_drew HO_5.out)
             have n1_ := Aside0.mk (Kd.V_drew HO_6.out)
             have n2_ := Aside0.mk (Kd.V_drew HO_39.out)
             have n3_ := Aside0.mk (blk_drew BK407.out)
             have n4_ := Aside0.mk (below_drew1 HB.out)
             clear HO_5
             clear HO_6
             clear HO_39
             clear BK407
             clear HB
             have HO_5 := n0_
             have HO_6 := n1_
             have HO_39 := n2_
             have BK407 := n3_
             have HB := n4_
             clear n0_ n1_ n2_ n3_ n4_
             have p408 : 0 ≤ ((ji21) : Int) := of_decide_eq_true (by first | (with_reducible assumption) | assumption)
             have q408 : (ji21) < (t400.length : Int) := of_decide_eq_true (by first | (with_reducible assumption) | assumption)
             obtain ⟨ad408, e408, hx408_0, hx408_1, hx408_2, hx408_3⟩ := at_T29 (Kd.V_reads' HO_6.out).2.2 (ji21) p408 q408
             obtain rfl : ad406 = ad408 := (by injection e408)
             replace p408 := eq_true p408
             replace q408 := eq_true q408
             refine start_ (n := 18) (S := fun w' => w'.cell? ⟨gb407, 0, none⟩ = some (.int .i64 ((rd_T29 t400 x41_1).f0)) ∧ w'.cell? ⟨gb407, 1, none⟩ = some (.int .i64 ((rd_T29 t400 x41_1).f1)) ∧ w'.cell? ⟨gb407, 2, none⟩ = some (.int .u8 ((rd_T29 t400 x41_1).f2)) ∧ w'.cell? ⟨gb407, 3, none⟩ = some (.int .i64 ((rd_T29 t400 x41_1).f3)) ∧ w'.cell? (ad406.add (((ji21)).toNat * 4)) = some (.int .i64 ((rd_T29 t400 (ji21)).f0)) ∧ w'.cell? ⟨(ad406.add (((ji21)).toNat * 4)).block, (ad406.add (((ji21)).toNat * 4)).off + 1, none⟩ = some (.int .i64 ((rd_T29 t400 (ji21)).f1)) ∧ w'.cell? ⟨(ad406.add (((ji21)).toNat * 4)).block, (ad406.add (((ji21)).toNat * 4)).off + 2, none⟩ = some (.int .u8 ((rd_T29 t400 (ji21)).f2)) ∧ w'.cell? ⟨(ad406.add (((ji21)).toNat * 4)).block, (ad406.add (((ji21)).toNat * 4)).off + 3, none⟩ = some (.int .i64 ((rd_T29 t400 (ji21)).f3))) (ds := []) #[false, false, false, false, false, false, false, false, false, false, false, false, false, false, false, false, false, false] (by kernel_rfl) rfl rfl ⟨(blk_cell BK407.out 0).trans rfl, (blk_cell BK407.out 1).trans rfl, (blk_cell BK407.out 2).trans rfl, (blk_cell BK407.out 3).trans rfl, hx408_0, hx408_1, hx408_2, hx408_3⟩ (fun hHeld => ?_); refine with_tabW bellmanlaw16_DueLeft.tab10 bellmanlaw16_DueLeft.bits10 (fun HT_ HW_ => ?_)
             generalize w33.drew = w34 at HO_5 HO_6 HO_39 BK407 HB hx408_0 hx408_1 hx408_2 hx408_3 hHeld ⊢
             refine pure_ (i := 0) (N := some 46) (v := ?_) (a' := ?_) #[true, false, false, false, false, false, false, false, false, false, false, false, false, false, false, false, false, false] rfl rfl (any_of HT_.out (by kernel_rfl)) (fun _ _ _ h => h) (Or.inl ⟨by rfl, ?_⟩) ?_ ?_
             rotate_left
             ·intro w'
              go_simp
              with_reducible rfl
             rotate_left
             ·simp only [Act.put, List.setIfInBounds_toArray, List.set_cons_zero, List.set_cons_succ, i64_w, i32_w]
              rfl
             refine pure_ (i := 2) (N := some 48) (v := ?_) (a' := ?_) #[true, false, true, false, false, false, false, false, false, false, false, false, false, false, false, false, false, false] rfl rfl (any_of HT_.out (by kernel_rfl)) (fun _ _ _ h => h) (Or.inl ⟨by rfl, ?_⟩) ?_ ?_
             rotate_left
             ·intro w'
              go_simp
              with_reducible rfl
             rotate_left
             ·simp only [Act.put, List.setIfInBounds_toArray, List.set_cons_zero, List.set_cons_succ, i64_w, i32_w]
              rfl
             refine take_ (i := 1) (N := some 47) (v := ?_) (a' := ?_) #[true, true, true, false, false, false, false, false, false, false, false, false, false, false, false, false, false, false] rfl rfl (take_ofW HT_.out HW_.out (by kernel_rfl)) (fun _ _ _ h => h) (Or.inl ⟨by rfl, ?_⟩) hHeld ?_ ?_
             rotate_left
             ·rintro w' ⟨s0, s1, s2, s3, s4, s5, s6, s7⟩
              go_simp
              with_reducible rfl
             rotate_left
             ·simp only [Act.put, List.setIfInBounds_toArray, List.set_cons_zero, List.set_cons_succ, i64_w, i32_w]
              rfl
             refine pure_ (i := 3) (N := some 49) (v := ?_) (a' := ?_) #[true, true, true, true, false, false, false, false, false, false, false, false, false, false, false, false, false, false] rfl rfl (any_of HT_.out (by kernel_rfl)) (fun _ _ _ h => h) (Or.inl ⟨by rfl, ?_⟩) ?_ ?_
             rotate_left
             ·intro w'
              go_simp
              with_reducible rfl
             rotate_left
             ·simp only [Act.put, List.setIfInBounds_toArray, List.set_cons_zero, List.set_cons_succ, i64_w, i32_w]
              rfl
             refine pure_ (i := 4) (N := some 50) (v := ?_) (a' := ?_) #[true, true, true, true, true, false, false, false, false, false, false, false, false, false, false, false, false, false] rfl rfl (any_of HT_.out (by kernel_rfl)) (fun _ _ _ h => h) (Or.inl ⟨by rfl, ?_⟩) ?_ ?_
             rotate_left
             ·intro w'
              go_simp
              with_reducible rfl
             rotate_left
             ·simp only [Act.put, List.setIfInBounds_toArray, List.set_cons_zero, List.set_cons_succ, i64_w, i32_w]
              rfl
             refine pure_ (i := 5) (N := some 51) (v := ?_) (a' := ?_) #[true, true, true, true, true, true, false, false, false, false, false, false, false, false, false, false, false, false] rfl rfl (any_of HT_.out (by kernel_rfl)) (fun _ _ _ h => h) (Or.inl ⟨by rfl, ?_⟩) ?_ ?_
             rotate_left
             ·intro w'
              go_simp
              with_reducible rfl
             rotate_left
             ·simp only [Act.put, List.setIfInBounds_toArray, List.set_cons_zero, List.set_cons_succ, i64_w, i32_w]
              rfl
             refine pure_ (i := 6) (N := some 52) (v := ?_) (a' := ?_) #[true, true, true, true, true, true, true, false, false, false, false, false, false, false, false, false, false, false] rfl rfl (any_of HT_.out (by kernel_rfl)) (fun _ _ _ h => h) (Or.inl ⟨by rfl, ?_⟩) ?_ ?_
             rotate_left
             ·intro w'
              go_simp
              with_reducible rfl
             rotate_left
             ·simp only [Act.put, List.setIfInBounds_toArray, List.set_cons_zero, List.set_cons_succ, i64_w, i32_w]
              rfl
             refine pure_ (i := 7) (N := some 53) (v := ?_) (a' := ?_) #[true, true, true, true, true, true, true, true, false, false, false, false, false, false, false, false, false, false] rfl rfl (any_of HT_.out (by kernel_rfl)) (fun _ _ _ h => h) (Or.inl ⟨by rfl, ?_⟩) ?_ ?_
             rotate_left
             ·intro w'
              go_simp
              with_reducible rfl
             rotate_left
             ·simp only [Act.put, List.setIfInBounds_toArray, List.set_cons_zero, List.set_cons_succ, i64_w, i32_w]
              rfl
             refine pure_ (i := 8) (N := some 54) (v := ?_) (a' := ?_) #[true, true, true, true, true, true, true, true, true, false, false, false, false, false, false, false, false, false] rfl rfl (any_of HT_.out (by kernel_rfl)) (fun _ _ _ h => h) (Or.inl ⟨by rfl, ?_⟩) ?_ ?_
             rotate_left
             ·intro w'
              go_simp
              with_reducible rfl
             rotate_left
             ·simp only [Act.put, List.setIfInBounds_toArray, List.set_cons_zero, List.set_cons_succ, i64_w, i32_w]
              rfl
             refine pure_ (i := 9) (N := some 55) (v := ?_) (a' := ?_) #[true, true, true, true, true, true, true, true, true, true, false, false, false, false, false, false, false, false] rfl rfl (any_of HT_.out (by kernel_rfl)) (fun _ _ _ h => h) (Or.inl ⟨by rfl, ?_⟩) ?_ ?_
             rotate_left
             ·intro w'
              go_simp
              with_reducible rfl
             rotate_left
             ·simp only [Act.put, List.setIfInBounds_toArray, List.set_cons_zero, List.set_cons_succ, i64_w, i32_w]
              rfl
             refine pure_ (i := 10) (N := some 56) (v := ?_) (a' := ?_) #[true, true, true, true, true, true, true, true, true, true, true, false, false, false, false, false, false, false] rfl rfl (any_of HT_.out (by kernel_rfl)) (fun _ _ _ h => h) (Or.inl ⟨by rfl, ?_⟩) ?_ ?_
             rotate_left
             ·intro w'
              go_simp
              with_reducible rfl
             rotate_left
             ·simp only [Act.put, List.setIfInBounds_toArray, List.set_cons_zero, List.set_cons_succ, i64_w, i32_w]
              rfl
             refine pure_ (i := 11) (N := some 57) (v := ?_) (a' := ?_) #[true, true, true, true, true, true, true, true, true, true, true, true, false, false, false, false, false, false] rfl rfl (any_of HT_.out (by kernel_rfl)) (fun _ _ _ h => h) (Or.inl ⟨by rfl, ?_⟩) ?_ ?_
             rotate_left
             ·intro w'
              go_simp
              with_reducible rfl
             rotate_left
             ·simp only [Act.put, List.setIfInBounds_toArray, List.set_cons_zero, List.set_cons_succ, i64_w, i32_w]
              rfl
             refine take_ (i := 12) (N := some 58) (v := ?_) (a' := ?_) #[true, true, true, true, true, true, true, true, true, true, true, true, true, false, false, false, false, false] rfl rfl (take_ofW HT_.out HW_.out (by kernel_rfl)) (fun _ _ _ h => h) (Or.inl ⟨by rfl, ?_⟩) hHeld ?_ ?_
             rotate_left
             ·rintro w' ⟨s0, s1, s2, s3, s4, s5, s6, s7⟩
              go_simp
              with_reducible rfl
             rotate_left
             ·simp only [Act.put, List.setIfInBounds_toArray, List.set_cons_zero, List.set_cons_succ, i64_w, i32_w]
              rfl
             refine take_ (i := 13) (N := some 59) (v := ?_) (a' := ?_) #[true, true, true, true, true, true, true, true, true, true, true, true, true, true, false, false, false, false] rfl rfl (take_ofW HT_.out HW_.out (by kernel_rfl)) (fun _ _ _ h => h) (Or.inl ⟨by rfl, ?_⟩) hHeld ?_ ?_
             rotate_left
             ·rintro w' ⟨s0, s1, s2, s3, s4, s5, s6, s7⟩
              go_simp
              with_reducible rfl
             rotate_left
             ·simp only [Act.put, List.setIfInBounds_toArray, List.set_cons_zero, List.set_cons_succ, i64_w, i32_w]
              rfl
             refine one_ (i := 14) (N := some 60) #[true, true, true, true, true, true, true, true, true, true, true, true, true, true, true, false, false, false] rfl rfl (one_of HT_.out (by kernel_rfl)) (by decide) (fun K hK => ?_)
             refine goes_ Try.func26 (by kernel_rfl) rfl #[.agg #[.int .i64 ((rd_T29 t400 (ji21)).f0), .int .i64 ((rd_T29 t400 (ji21)).f1), .int .u8 ((rd_T29 t400 (ji21)).f2), .int .i64 ((rd_T29 t400 (ji21)).f3)], .agg #[.int .i64 ((rd_T29 t400 x41_1).f0), .int .i64 ((rd_T29 t400 x41_1).f1), .int .u8 ((rd_T29 t400 x41_1).f2), .int .i64 ((rd_T29 t400 x41_1).f3)]] (by rfl) rfl rfl (by (try simp only [List.map_toArray, List.map_cons, List.map_nil]); first | done | (simp only [hji21]; rfl) | rfl | (simp only [List.length_drop, List.length_take]; rfl)) ?_
             with_reducible refine (bellmanref15_Ahead.calls ((rd_T29 t400 (ji21)).f0) ((rd_T29 t400 (ji21)).f1) ((rd_T29 t400 (ji21)).f2) ((rd_T29 t400 (ji21)).f3) ((rd_T29 t400 x41_1).f0) ((rd_T29 t400 x41_1).f1) ((rd_T29 t400 x41_1).f2) ((rd_T29 t400 x41_1).f3) false _ A24.out).mono ?_
             rintro e w35 ⟨rfl, hb⟩
             have HS4_ := (hb.cell (World.block_lt_of_cell? _ _ (hHeld.2.2.2.2.1))).trans (hHeld.2.2.2.2.1)
             have HS5_ := (hb.cell (World.block_lt_of_cell? _ _ (hHeld.2.2.2.2.2.1))).trans (hHeld.2.2.2.2.2.1)
             have HS6_ := (hb.cell (World.block_lt_of_cell? _ _ (hHeld.2.2.2.2.2.2.1))).trans (hHeld.2.2.2.2.2.2.1)
             have HS7_ := (hb.cell (World.block_lt_of_cell? _ _ (hHeld.2.2.2.2.2.2.2))).trans (hHeld.2.2.2.2.2.2.2)
             refine ⟨_, rfl, ?_⟩
             have n0_ := Aside0.mk (Kd.V_below (by (with_reducible repeat (first | apply Kd.V_alloc | apply Kd.V_drewN | apply Kd.V_drew)); exact HO_5.out) hb)
             have n1_ := Aside0.mk (Kd.V_below (by (with_reducible repeat (first | apply Kd.V_alloc | apply Kd.V_drewN | apply Kd.V_drew)); exact HO_6.out) hb)
             have n2_ := Aside0.mk (Kd.V_below (by (with_reducible repeat (first | apply Kd.V_alloc | apply Kd.V_drewN | apply Kd.V_drew)); exact HO_39.out) hb)
             have n3_ := Aside0.mk (blk_below (g := gb407) (o := .cells #[.int .i64 ((rd_T29 t400 x41_1).f0), .int .i64 ((rd_T29 t400 x41_1).f1), .int .u8 ((rd_T29 t400 x41_1).f2), .int .i64 ((rd_T29 t400 x41_1).f3)] 29 (0, 0)) (by (with_reducible repeat (first | refine blk_drewN ?_ _ | refine blk_drew ?_ | refine blk_alloc ?_ _)); exact BK407.out) hb)
             have n4_ := Aside0.mk (below_step (by repeat (first | (with_reducible first | exact HB.out | apply below_alloc | apply pw_below_drewN | apply below_drew1 | refine below_set ?_ GE407.out) | exact HB.out)) hb)
             clear HO_5
             clear HO_6
             clear HO_39
             clear BK407
             clear HB
             have HO_5 := n0_
             have HO_6 := n1_
             have HO_39 := n2_
             have BK407 := n3_
             have HB := n4_
             clear n0_ n1_ n2_ n3_ n4_
             (try clear hb)
             (try clear hb2)
             (try clear hk)
             (try clear hi)
             refine hK.out _ _ ⟨(blk_cell BK407.out 0).trans rfl, (blk_cell BK407.out 1).trans rfl, (blk_cell BK407.out 2).trans rfl, (blk_cell BK407.out 3).trans rfl, HS4_, HS5_, HS6_, HS7_⟩ (fun hHeld => ?_)
             clear hK K
             refine norm_ (a' := ?_) ?_ ?_
             rotate_left
             ·show Act.put _ (some 60) _ = _
              simp only [Act.put, List.setIfInBounds_toArray, List.set_cons_zero, List.set_cons_succ, i64_w, i32_w]
              rfl
             refine pure_ (i := 15) (N := some 61) (v := ?_) (a' := ?_) #[true, true, true, true, true, true, true, true, true, true, true, true, true, true, true, true, false, false] rfl rfl (any_of HT_.out (by kernel_rfl)) (fun _ _ _ h => h) (Or.inl ⟨by rfl, ?_⟩) ?_ ?_
             rotate_left
             ·intro w'
              go_simp
              with_reducible rfl
             rotate_left
             ·simp only [Act.put, List.setIfInBounds_toArray, List.set_cons_zero, List.set_cons_succ, i64_w, i32_w]
              rfl
             refine pure_ (i := 16) (N := some 62) (v := ?_) (a' := ?_) #[true, true, true, true, true, true, true, true, true, true, true, true, true, true, true, true, true, false] rfl rfl (any_of HT_.out (by kernel_rfl)) (fun _ _ _ h => h) (Or.inl ⟨by rfl, ?_⟩) ?_ ?_
             rotate_left
             ·intro w'
              go_simp
              with_reducible rfl
             rotate_left
             ·simp only [Act.put, List.setIfInBounds_toArray, List.set_cons_zero, List.set_cons_succ, i64_w, i32_w]
              rfl
             refine pure_ (i := 17) (N := some 63) (v := ?_) (a' := ?_) #[true, true, true, true, true, true, true, true, true, true, true, true, true, true, true, true, true, true] rfl rfl (any_of HT_.out (by kernel_rfl)) (fun _ _ _ h => h) (Or.inl ⟨by rfl, ?_⟩) ?_ ?_
             rotate_left
             ·intro w'
              go_simp
              with_reducible rfl
             rotate_left
             ·simp only [Act.put, List.setIfInBounds_toArray, List.set_cons_zero, List.set_cons_succ, i64_w, i32_w]
              rfl
             refine done_ (done_of HT_.out (by kernel_rfl)) ?_
             try go_wp2
             go_ret
             exact ⟨by first | rfl | (simp [errW_none, errW_some] <;> rfl) | (simp only [← hji21]; first | rfl | (simp [errW_none, errW_some] <;> rfl)) | (simp [*, errW_none, errW_some] <;> rfl), by repeat (first | (with_reducible first | exact HB.out | apply below_alloc | apply pw_below_drewN | apply below_drew1 | refine below_set ?_ GE407.out) | exact HB.out)⟩
           ·rw [if_neg c23] at H
            exact absurd H (by simp)
          ·rw [if_neg c22] at H
           exact absurd H (by simp)
         ·rw [if_neg c20] at H
          have c20b0 : decide (0 < x41_1) = false := decide_eq_false c20
          clear c20
          have H' := Aside0.mk H
          clear H
          have p406 : 0 ≤ (x41_1 : Int) := of_decide_eq_true (by first | (with_reducible assumption) | assumption)
          have q406 : x41_1 < (t400.length : Int) := of_decide_eq_true (by first | (with_reducible assumption) | assumption)
          obtain ⟨ad406, e406, hx406_0, hx406_1, hx406_2, hx406_3⟩ := at_T29 (Kd.V_reads' HO_39.out).2.2 x41_1 p406 q406
          cases e406
          replace p406 := eq_true p406
          replace q406 := eq_true q406
          try go_wp2_with (first | ((with_reducible refine gate_dst (N := 11) rfl ?_); (try (refine gate_guard (by rfl) ?_; dsimp only)); refine box_event ?hg (N := 11) ?hd (cs := #[.int .i64 0, .int .i64 0, .int .u8 0, .int .i64 0]) (t := 29) ?hr ?_; (case hd => rfl); (case hg => rfl); (case hr => first | (go_simp; done) | (go_simp; rfl)); intro gb407 hg w36 hbox hb; have n0_ := Aside0.mk (Kd.V_below (Kd.V_elderB (by (with_reducible repeat (first | apply Kd.V_alloc | apply Kd.V_drewN | apply Kd.V_drew)); exact HO_5.out) gb407 (Nat.le_of_eq hg.symm)) hb); have n1_ := Aside0.mk (Kd.V_below (Kd.V_elderB (by (with_reducible repeat (first | apply Kd.V_alloc | apply Kd.V_drewN | apply Kd.V_drew)); exact HO_6.out) gb407 (Nat.le_of_eq hg.symm)) hb); have n2_ := Aside0.mk (Kd.V_below (Kd.V_elderB (by (with_reducible repeat (first | apply Kd.V_alloc | apply Kd.V_drewN | apply Kd.V_drew)); exact HO_39.out) gb407 (Nat.le_of_eq hg.symm)) hb); have n3_ := Aside0.mk (below_step (by repeat (first | (with_reducible first | exact HB.out | apply below_alloc | apply pw_below_drewN | apply below_drew1) | exact HB.out)) hb); have n4_ := Aside0.mk (hbox); have n5_ := Aside0.mk ((by rw [hg]; exact (below_size (by repeat (first | (with_reducible first | exact HB.out | apply below_alloc | apply pw_below_drewN | apply below_drew1) | exact HB.out))) : w.heap.size ≤ gb407)); have n6_ := Aside0.mk ((by rw [hg]; exact (below_size (by repeat (first | (with_reducible first | exact HB.out | apply below_alloc | apply pw_below_drewN | apply below_drew1) | exact HB.out))) : w.heap.size ≤ gb407)); clear HO_5; clear HO_6; clear HO_39; clear HB; have HO_5 := n0_; have HO_6 := n1_; have HO_39 := n2_; have HB := n3_; have BK407 := n4_; have GW407 := n5_; have GE407 := n6_; clear n0_ n1_ n2_ n3_ n4_ n5_ n6_; clear hb hbox hg; have hcz37_0 : w36.cell? ⟨gb407, 0, none⟩ = some (.int .i64 0) := (blk_cell BK407.out 0).trans rfl; have hcz37_1 : w36.cell? ⟨gb407, 1, none⟩ = some (.int .i64 0) := (blk_cell BK407.out 1).trans rfl; have hcz37_2 : w36.cell? ⟨gb407, 2, none⟩ = some (.int .u8 0) := (blk_cell BK407.out 2).trans rfl; have hcz37_3 : w36.cell? ⟨gb407, 3, none⟩ = some (.int .i64 0) := (blk_cell BK407.out 3).trans rfl; have hfz37_0 := blk_frozen BK407.out 0; have hfz37_1 := blk_frozen BK407.out 1; have hfz37_2 := blk_frozen BK407.out 2; have hfz37_3 := blk_frozen BK407.out 3))
          have n0_ : Aside0 (Kd.V k29 29 ((((w36.setCell ⟨gb407, 0, none⟩ (.int .i64 ((rd_T29 t400 x41_1).f0))).setCell ⟨gb407, 1, none⟩ (.int .i64 ((rd_T29 t400 x41_1).f1))).setCell ⟨gb407, 2, none⟩ (.int .u8 ((rd_T29 t400 x41_1).f2))).setCell ⟨gb407, 3, none⟩ (.int .i64 ((rd_T29 t400 x41_1).f3))) w.heap.size (fun k_ => k_ ≠ gb407) v398 t397) := ⟨by (with_reducible repeat (first | apply Kd.V_alloc | apply Kd.V_drewN | apply Kd.V_drew)); exact Kd.V_mono (Kd.V_far (p := ⟨gb407, 3, none⟩) (Kd.V_far (p := ⟨gb407, 2, none⟩) (Kd.V_far (p := ⟨gb407, 1, none⟩) (Kd.V_far (p := ⟨gb407, 0, none⟩) (Kd.V_mono HO_5.out (fun k_ hk => (⟨hk, hk.2⟩ : _ ∧ k_ ≠ gb407))) (fun _ hk => hk.2) (.int .i64 ((rd_T29 t400 x41_1).f0))) (fun _ hk => hk.2) (.int .i64 ((rd_T29 t400 x41_1).f1))) (fun _ hk => hk.2) (.int .u8 ((rd_T29 t400 x41_1).f2))) (fun _ hk => hk.2) (.int .i64 ((rd_T29 t400 x41_1).f3))) (fun _ hk => hk.1.2)⟩
          have n1_ : Aside0 (Kd.V k29 29 ((((w36.setCell ⟨gb407, 0, none⟩ (.int .i64 ((rd_T29 t400 x41_1).f0))).setCell ⟨gb407, 1, none⟩ (.int .i64 ((rd_T29 t400 x41_1).f1))).setCell ⟨gb407, 2, none⟩ (.int .u8 ((rd_T29 t400 x41_1).f2))).setCell ⟨gb407, 3, none⟩ (.int .i64 ((rd_T29 t400 x41_1).f3))) w.heap.size (fun k_ => k_ ≠ gb407) (.slice (some ad406) t400.length co11) t400) := ⟨by (with_reducible repeat (first | apply Kd.V_alloc | apply Kd.V_drewN | apply Kd.V_drew)); exact Kd.V_mono (Kd.V_far (p := ⟨gb407, 3, none⟩) (Kd.V_far (p := ⟨gb407, 2, none⟩) (Kd.V_far (p := ⟨gb407, 1, none⟩) (Kd.V_far (p := ⟨gb407, 0, none⟩) (Kd.V_mono HO_6.out (fun k_ hk => (⟨hk, hk.2⟩ : _ ∧ k_ ≠ gb407))) (fun _ hk => hk.2) (.int .i64 ((rd_T29 t400 x41_1).f0))) (fun _ hk => hk.2) (.int .i64 ((rd_T29 t400 x41_1).f1))) (fun _ hk => hk.2) (.int .u8 ((rd_T29 t400 x41_1).f2))) (fun _ hk => hk.2) (.int .i64 ((rd_T29 t400 x41_1).f3))) (fun _ hk => hk.1.2)⟩
          have n2_ : Aside0 (Kd.V k29 29 ((((w36.setCell ⟨gb407, 0, none⟩ (.int .i64 ((rd_T29 t400 x41_1).f0))).setCell ⟨gb407, 1, none⟩ (.int .i64 ((rd_T29 t400 x41_1).f1))).setCell ⟨gb407, 2, none⟩ (.int .u8 ((rd_T29 t400 x41_1).f2))).setCell ⟨gb407, 3, none⟩ (.int .i64 ((rd_T29 t400 x41_1).f3))) w.heap.size (fun k_ => k_ ≠ gb407) (.slice (some ad406) t400.length co11) t400) := ⟨by (with_reducible repeat (first | apply Kd.V_alloc | apply Kd.V_drewN | apply Kd.V_drew)); exact Kd.V_mono (Kd.V_far (p := ⟨gb407, 3, none⟩) (Kd.V_far (p := ⟨gb407, 2, none⟩) (Kd.V_far (p := ⟨gb407, 1, none⟩) (Kd.V_far (p := ⟨gb407, 0, none⟩) (Kd.V_mono HO_39.out (fun k_ hk => (⟨hk, hk.2⟩ : _ ∧ k_ ≠ gb407))) (fun _ hk => hk.2) (.int .i64 ((rd_T29 t400 x41_1).f0))) (fun _ hk => hk.2) (.int .i64 ((rd_T29 t400 x41_1).f1))) (fun _ hk => hk.2) (.int .u8 ((rd_T29 t400 x41_1).f2))) (fun _ hk => hk.2) (.int .i64 ((rd_T29 t400 x41_1).f3))) (fun _ hk => hk.1.2)⟩
          have n3_ : Aside0 (((((w36.setCell ⟨gb407, 0, none⟩ (.int .i64 ((rd_T29 t400 x41_1).f0))).setCell ⟨gb407, 1, none⟩ (.int .i64 ((rd_T29 t400 x41_1).f1))).setCell ⟨gb407, 2, none⟩ (.int .u8 ((rd_T29 t400 x41_1).f2))).setCell ⟨gb407, 3, none⟩ (.int .i64 ((rd_T29 t400 x41_1).f3))).heap[gb407]? = some (.cells #[.int .i64 ((rd_T29 t400 x41_1).f0), .int .i64 ((rd_T29 t400 x41_1).f1), .int .u8 ((rd_T29 t400 x41_1).f2), .int .i64 ((rd_T29 t400 x41_1).f3)] 29 (0, 0))) := ⟨by (with_reducible repeat (first | refine blk_drewN ?_ _ | refine blk_drew ?_ | refine blk_alloc ?_ _)); refine blk_put (cs := #[.int .i64 ((rd_T29 t400 x41_1).f0), .int .i64 ((rd_T29 t400 x41_1).f1), .int .u8 ((rd_T29 t400 x41_1).f2), .int .i64 0]) ?_ 3 _ rfl; (with_reducible repeat (first | refine blk_drewN ?_ _ | refine blk_drew ?_ | refine blk_alloc ?_ _)); refine blk_put (cs := #[.int .i64 ((rd_T29 t400 x41_1).f0), .int .i64 ((rd_T29 t400 x41_1).f1), .int .u8 0, .int .i64 0]) ?_ 2 _ rfl; (with_reducible repeat (first | refine blk_drewN ?_ _ | refine blk_drew ?_ | refine blk_alloc ?_ _)); refine blk_put (cs := #[.int .i64 ((rd_T29 t400 x41_1).f0), .int .i64 0, .int .u8 0, .int .i64 0]) ?_ 1 _ rfl; (with_reducible repeat (first | refine blk_drewN ?_ _ | refine blk_drew ?_ | refine blk_alloc ?_ _)); refine blk_put (cs := #[.int .i64 0, .int .i64 0, .int .u8 0, .int .i64 0]) ?_ 0 _ rfl; (with_reducible repeat (first | refine blk_drewN ?_ _ | refine blk_drew ?_ | refine blk_alloc ?_ _)); exact BK407.out⟩
          have n4_ : Aside0 (Below w.heap.size w ((((w36.setCell ⟨gb407, 0, none⟩ (.int .i64 ((rd_T29 t400 x41_1).f0))).setCell ⟨gb407, 1, none⟩ (.int .i64 ((rd_T29 t400 x41_1).f1))).setCell ⟨gb407, 2, none⟩ (.int .u8 ((rd_T29 t400 x41_1).f2))).setCell ⟨gb407, 3, none⟩ (.int .i64 ((rd_T29 t400 x41_1).f3)))) := ⟨by repeat (first | (with_reducible first | exact HB.out | apply below_alloc | apply pw_below_drewN | apply below_drew1 | refine below_set ?_ GE407.out) | exact HB.out)⟩
          (try clear HO_5)
          (try clear HO_6)
          (try clear HO_39)
          (try clear BK407)
          (try clear HB)
          generalize ((((w36.setCell ⟨gb407, 0, none⟩ (.int .i64 ((rd_T29 t400 x41_1).f0))).setCell ⟨gb407, 1, none⟩ (.int .i64 ((rd_T29 t400 x41_1).f1))).setCell ⟨gb407, 2, none⟩ (.int .u8 ((rd_T29 t400 x41_1).f2))).setCell ⟨gb407, 3, none⟩ (.int .i64 ((rd_T29 t400 x41_1).f3))) = w38 at n0_ n1_ n2_ n3_ n4_ ⊢
          have HO_5 := n0_
          have HO_6 := n1_
          have HO_39 := n2_
          have BK407 := n3_
          have HB := n4_
          clear n0_ n1_ n2_ n3_ n4_
          have n0_ := Aside0.mk (Kd.V_drew HO_5.out)
          have n1_ := Aside0.mk (Kd.V_drew HO_6.out)
          have n2_ := Aside0.mk (Kd.V_drew HO_39.out)
          have n3_ := Aside0.mk (blk_drew BK407.out)
          have n4_ := Aside0.mk (below_drew1 HB.out)
          clear HO_5
          clear HO_6
          clear HO_39
          clear BK407
          clear HB
          have HO_5 := n0_
          have HO_6 := n1_
          have HO_39 := n2_
          have BK407 := n3_
          have HB := n4_
          clear n0_ n1_ n2_ n3_ n4_
          refine start_ (n := 18) (S := fun w' => w'.cell? ⟨gb407, 0, none⟩ = some (.int .i64 ((rd_T29 t400 x41_1).f0)) ∧ w'.cell? ⟨gb407, 1, none⟩ = some (.int .i64 ((rd_T29 t400 x41_1).f1)) ∧ w'.cell? ⟨gb407, 2, none⟩ = some (.int .u8 ((rd_T29 t400 x41_1).f2)) ∧ w'.cell? ⟨gb407, 3, none⟩ = some (.int .i64 ((rd_T29 t400 x41_1).f3))) (ds := []) #[false, false, false, false, false, false, false, false, false, false, false, false, false, false, false, false, false, false] (by kernel_rfl) rfl rfl ⟨(blk_cell BK407.out 0).trans rfl, (blk_cell BK407.out 1).trans rfl, (blk_cell BK407.out 2).trans rfl, (blk_cell BK407.out 3).trans rfl⟩ (fun hHeld => ?_); refine with_tabW bellmanlaw16_DueLeft.tab10 bellmanlaw16_DueLeft.bits10 (fun HT_ HW_ => ?_)
          generalize w38.drew = w39 at HO_5 HO_6 HO_39 BK407 HB hHeld ⊢
          refine pure_ (i := 0) (N := some 46) (v := ?_) (a' := ?_) #[true, false, false, false, false, false, false, false, false, false, false, false, false, false, false, false, false, false] rfl rfl (any_of HT_.out (by kernel_rfl)) (fun _ _ _ h => h) (Or.inl ⟨by rfl, ?_⟩) ?_ ?_
          rotate_left
          ·intro w'
           go_simp
           with_reducible rfl
          rotate_left
          ·simp only [Act.put, List.setIfInBounds_toArray, List.set_cons_zero, List.set_cons_succ, i64_w, i32_w]
           rfl
          refine pure_ (i := 2) (N := some 48) (v := ?_) (a' := ?_) #[true, false, true, false, false, false, false, false, false, false, false, false, false, false, false, false, false, false] rfl rfl (any_of HT_.out (by kernel_rfl)) (fun _ _ _ h => h) (Or.inl ⟨by rfl, ?_⟩) ?_ ?_
          rotate_left
          ·intro w'
           go_simp
           with_reducible rfl
          rotate_left
          ·simp only [Act.put, List.setIfInBounds_toArray, List.set_cons_zero, List.set_cons_succ, i64_w, i32_w]
           rfl
          refine take_ (i := 1) (N := some 47) (v := ?_) (a' := ?_) #[true, true, true, false, false, false, false, false, false, false, false, false, false, false, false, false, false, false] rfl rfl (take_ofW HT_.out HW_.out (by kernel_rfl)) (fun _ _ _ h => h) (Or.inl ⟨by rfl, ?_⟩) hHeld ?_ ?_
          rotate_left
          ·rintro w' ⟨s0, s1, s2, s3⟩
           go_simp
           with_reducible rfl
          rotate_left
          ·simp only [Act.put, List.setIfInBounds_toArray, List.set_cons_zero, List.set_cons_succ, i64_w, i32_w]
           rfl
          refine pure_ (i := 3) (N := some 49) (v := ?_) (a' := ?_) #[true, true, true, true, false, false, false, false, false, false, false, false, false, false, false, false, false, false] rfl rfl (any_of HT_.out (by kernel_rfl)) (fun _ _ _ h => h) (Or.inl ⟨by rfl, ?_⟩) ?_ ?_
          rotate_left
          ·intro w'
           go_simp
           with_reducible rfl
          rotate_left
          ·simp only [Act.put, List.setIfInBounds_toArray, List.set_cons_zero, List.set_cons_succ, i64_w, i32_w]
           rfl
          refine pure_ (i := 4) (N := some 50) (v := ?_) (a' := ?_) #[true, true, true, true, true, false, false, false, false, false, false, false, false, false, false, false, false, false] rfl rfl (any_of HT_.out (by kernel_rfl)) (fun _ _ _ h => h) (Or.inl ⟨by rfl, ?_⟩) ?_ ?_
          rotate_left
          ·intro w'
           go_simp
           with_reducible rfl
          rotate_left
          ·simp only [Act.put, List.setIfInBounds_toArray, List.set_cons_zero, List.set_cons_succ, i64_w, i32_w]
           rfl
          refine pure_ (i := 5) (N := some 51) (v := ?_) (a' := ?_) #[true, true, true, true, true, true, false, false, false, false, false, false, false, false, false, false, false, false] rfl rfl (any_of HT_.out (by kernel_rfl)) (fun _ _ _ h => h) (Or.inl ⟨by rfl, ?_⟩) ?_ ?_
          rotate_left
          ·intro w'
           go_simp
           with_reducible rfl
          rotate_left
          ·simp only [Act.put, List.setIfInBounds_toArray, List.set_cons_zero, List.set_cons_succ, i64_w, i32_w]
           rfl
          refine pure_ (i := 6) (N := some 52) (v := ?_) (a' := ?_) #[true, true, true, true, true, true, true, false, false, false, false, false, false, false, false, false, false, false] rfl rfl (any_of HT_.out (by kernel_rfl)) (fun _ _ _ h => h) (Or.inl ⟨by rfl, ?_⟩) ?_ ?_
          rotate_left
          ·intro w'
           go_simp
           with_reducible rfl
          rotate_left
          ·simp only [Act.put, List.setIfInBounds_toArray, List.set_cons_zero, List.set_cons_succ, i64_w, i32_w]
           rfl
          refine pure_ (i := 7) (N := some 53) (v := ?_) (a' := ?_) #[true, true, true, true, true, true, true, true, false, false, false, false, false, false, false, false, false, false] rfl rfl (any_of HT_.out (by kernel_rfl)) (fun _ _ _ h => h) (Or.inl ⟨by rfl, ?_⟩) ?_ ?_
          rotate_left
          ·intro w'
           go_simp
           with_reducible rfl
          rotate_left
          ·simp only [Act.put, List.setIfInBounds_toArray, List.set_cons_zero, List.set_cons_succ, i64_w, i32_w]
           rfl
          refine pure_ (i := 8) (N := some 54) (v := undef) (a' := ?_) #[true, true, true, true, true, true, true, true, true, false, false, false, false, false, false, false, false, false] rfl rfl (any_of HT_.out (by kernel_rfl)) (fun _ _ _ h => h) (Or.inr ⟨by rfl, rfl⟩) ?_ ?_
          rotate_left
          ·simp only [Act.put, List.setIfInBounds_toArray, List.set_cons_zero, List.set_cons_succ, i64_w, i32_w]
           rfl
          refine pure_ (i := 9) (N := some 55) (v := undef) (a' := ?_) #[true, true, true, true, true, true, true, true, true, true, false, false, false, false, false, false, false, false] rfl rfl (any_of HT_.out (by kernel_rfl)) (fun _ _ _ h => h) (Or.inr ⟨by rfl, rfl⟩) ?_ ?_
          rotate_left
          ·simp only [Act.put, List.setIfInBounds_toArray, List.set_cons_zero, List.set_cons_succ, i64_w, i32_w]
           rfl
          refine pure_ (i := 10) (N := some 56) (v := undef) (a' := ?_) #[true, true, true, true, true, true, true, true, true, true, true, false, false, false, false, false, false, false] rfl rfl (any_of HT_.out (by kernel_rfl)) (fun _ _ _ h => h) (Or.inr ⟨by rfl, rfl⟩) ?_ ?_
          rotate_left
          ·simp only [Act.put, List.setIfInBounds_toArray, List.set_cons_zero, List.set_cons_succ, i64_w, i32_w]
           rfl
          refine pure_ (i := 11) (N := some 57) (v := undef) (a' := ?_) #[true, true, true, true, true, true, true, true, true, true, true, true, false, false, false, false, false, false] rfl rfl (any_of HT_.out (by kernel_rfl)) (fun _ _ _ h => h) (Or.inr ⟨by rfl, rfl⟩) ?_ ?_
          rotate_left
          ·simp only [Act.put, List.setIfInBounds_toArray, List.set_cons_zero, List.set_cons_succ, i64_w, i32_w]
           rfl
          refine pure_ (i := 12) (N := some 58) (v := undef) (a' := ?_) #[true, true, true, true, true, true, true, true, true, true, true, true, true, false, false, false, false, false] rfl rfl (any_of HT_.out (by kernel_rfl)) (fun _ _ _ h => h) (Or.inr ⟨by rfl, rfl⟩) ?_ ?_
          rotate_left
          ·simp only [Act.put, List.setIfInBounds_toArray, List.set_cons_zero, List.set_cons_succ, i64_w, i32_w]
           rfl
          refine pure_ (i := 13) (N := some 59) (v := undef) (a' := ?_) #[true, true, true, true, true, true, true, true, true, true, true, true, true, true, false, false, false, false] rfl rfl (any_of HT_.out (by kernel_rfl)) (fun _ _ _ h => h) (Or.inr ⟨by rfl, rfl⟩) ?_ ?_
          rotate_left
          ·simp only [Act.put, List.setIfInBounds_toArray, List.set_cons_zero, List.set_cons_succ, i64_w, i32_w]
           rfl
          refine pure_ (i := 14) (N := some 60) (v := undef) (a' := ?_) #[true, true, true, true, true, true, true, true, true, true, true, true, true, true, true, false, false, false] rfl rfl (any_of HT_.out (by kernel_rfl)) (fun _ _ _ h => h) (Or.inr ⟨by rfl, rfl⟩) ?_ ?_
          rotate_left
          ·simp only [Act.put, List.setIfInBounds_toArray, List.set_cons_zero, List.set_cons_succ, i64_w, i32_w]
           rfl
          refine pure_ (i := 15) (N := some 61) (v := undef) (a' := ?_) #[true, true, true, true, true, true, true, true, true, true, true, true, true, true, true, true, false, false] rfl rfl (any_of HT_.out (by kernel_rfl)) (fun _ _ _ h => h) (Or.inr ⟨by rfl, rfl⟩) ?_ ?_
          rotate_left
          ·simp only [Act.put, List.setIfInBounds_toArray, List.set_cons_zero, List.set_cons_succ, i64_w, i32_w]
           rfl
          refine pure_ (i := 16) (N := some 62) (v := ?_) (a' := ?_) #[true, true, true, true, true, true, true, true, true, true, true, true, true, true, true, true, true, false] rfl rfl (any_of HT_.out (by kernel_rfl)) (fun _ _ _ h => h) (Or.inl ⟨by rfl, ?_⟩) ?_ ?_
          rotate_left
          ·intro w'
           go_simp
           with_reducible rfl
          rotate_left
          ·simp only [Act.put, List.setIfInBounds_toArray, List.set_cons_zero, List.set_cons_succ, i64_w, i32_w]
           rfl
          refine pure_ (i := 17) (N := some 63) (v := ?_) (a' := ?_) #[true, true, true, true, true, true, true, true, true, true, true, true, true, true, true, true, true, true] rfl rfl (any_of HT_.out (by kernel_rfl)) (fun _ _ _ h => h) (Or.inl ⟨by rfl, ?_⟩) ?_ ?_
          rotate_left
          ·intro w'
           go_simp
           with_reducible rfl
          rotate_left
          ·simp only [Act.put, List.setIfInBounds_toArray, List.set_cons_zero, List.set_cons_succ, i64_w, i32_w]
           rfl
          refine done_ (done_of HT_.out (by kernel_rfl)) ?_
          try go_wp2
          go_roundg k1
          case measure => have := HK1.out; omega
          case rel => exact ⟨(wrap64 (x41_1 + 1)), (by first | rfl | (simp; done) | (simp [*]; done)), H', ⟨by have := HK1.out; omega⟩, ⟨by (with_reducible repeat (first | apply Kd.V_alloc | apply Kd.V_drewN | apply Kd.V_drew)); exact Kd.V_mono HO_5.out (fun _ hk => trivial)⟩, ⟨by (with_reducible repeat (first | apply Kd.V_alloc | apply Kd.V_drewN | apply Kd.V_drew)); exact Kd.V_mono HO_6.out (fun _ hk => trivial)⟩, ⟨by (with_reducible repeat (first | apply Kd.V_alloc | apply Kd.V_drewN | apply Kd.V_drew)); exact Kd.V_mono HO_39.out (fun _ hk => trivial)⟩, ⟨by repeat (first | (with_reducible first | exact HB.out | apply below_alloc | apply pw_below_drewN | apply below_drew1 | refine below_set ?_ GE407.out) | exact HB.out)⟩⟩
       ·rw [if_neg c14] at H
        exact absurd H (by simp)
      ·rw [if_neg c13] at H
       exact absurd H (by simp)
     ·rw [if_neg c12] at H
      have c12b0 : decide (x41_1 < (t400.length : Int)) = false := decide_eq_false c12
      clear c12
      have H' := Aside0.mk H
      clear H
      obtain ⟨Ao40, co40, eo40⟩ := Kd.V_slice HO_5.out
      subst eo40
      go_wp2
      go_loopg [67] k1 (fun kq v67 w' => ∃ (x67_2 : Int), v67 = .int .i64 x67_2 ∧ Aside0 (bellmanlaw16_DueLeft.l1 kq l0 a1 t397 t400 t404 t405 t397 (t397.length : Int) x67_2 = some r) ∧ Aside0 (kq ≤ k1) ∧ Aside0 (Kd.V k29 29 w' w.heap.size (fun _ => True) (.slice Ao40 t397.length co40) t397) ∧ Aside0 (Kd.V k29 29 w' w.heap.size (fun _ => True) (.slice Ao11 t400.length co11) t400) ∧ Aside0 (Kd.V k29 29 w' w.heap.size (fun _ => True) (.slice Ao40 t397.length co40) t397) ∧ Aside0 (Below w.heap.size w w'))
      case atStart => exact ⟨(0), (by first | rfl | (simp; done) | (simp [*]; done)), H', ⟨Nat.le_refl _⟩, ⟨by (with_reducible repeat (first | apply Kd.V_alloc | apply Kd.V_drewN | apply Kd.V_drew)); exact HO_5.out⟩, ⟨by (with_reducible repeat (first | apply Kd.V_alloc | apply Kd.V_drewN | apply Kd.V_drew)); exact HO_6.out⟩, ⟨by (with_reducible repeat (first | apply Kd.V_alloc | apply Kd.V_drewN | apply Kd.V_drew)); exact HO_5.out⟩, ⟨by repeat (first | (with_reducible first | exact HB.out | apply below_alloc | apply pw_below_drewN | apply below_drew1) | exact HB.out)⟩⟩
      case round =>
       clear H'
       try clear c1
       try clear c2
       try clear p2
       try clear p4
       try clear q4
       try clear hx4
       try clear p6
       try clear c12
       try clear c12b0
       try clear c13
       try clear c14
       try clear c20
       try clear c20b0
       try clear c22
       try clear c23
       try clear c25
       try clear c26
       try clear p40
       try clear q40
       try clear hx40
       try clear hcz32_0
       try clear hcz32_1
       try clear hcz32_2
       try clear hcz32_3
       try clear hcz37_0
       try clear hcz37_1
       try clear hcz37_2
       try clear hcz37_3
       try clear hfz32_0
       try clear hfz32_1
       try clear hfz32_2
       try clear hfz32_3
       try clear hfz37_0
       try clear hfz37_1
       try clear hfz37_2
       try clear hfz37_3
       try clear hx406_0
       try clear hx406_1
       try clear hx406_2
       try clear hx406_3
       try clear hx408_0
       try clear hx408_1
       try clear hx408_2
       try clear hx408_3
       try clear p406
       try clear p408
       try clear q406
       try clear q408
       obtain ⟨x67_2, rfl, HA, HK2, HO_5, HO_6, HO_65, HB⟩ := hrel
       cases gk with
       | zero => exact absurd HA.out (by simp [bellmanlaw16_DueLeft.l1])
       | succ k2 =>
        have H := HA.out
        clear HA
        simp only [bellmanlaw16_DueLeft.l1] at H
        by_cases c41 : x67_2 < (t397.length : Int)
        ·rw [if_pos c41] at H
         have c41b0 : decide (x67_2 < (t397.length : Int)) = true := decide_eq_true c41
         clear c41
         by_cases c42 : 0 ≤ x67_2
         ·rw [if_pos c42] at H
          have c42b0 : decide (0 ≤ x67_2) = true := decide_eq_true c42
          clear c42
          by_cases c43 : x67_2 < (t397.length : Int)
          ·rw [if_pos c43] at H
           have c43b0 : decide (x67_2 < (t397.length : Int)) = true := decide_eq_true c43
           clear c43
           by_cases c44 : ((rd_T29 t397 x67_2).f0) ≤ a1
           ·rw [if_pos c44] at H
            have c44b0 : decide (((rd_T29 t397 x67_2).f0) ≤ a1) = true := decide_eq_true c44
            clear c44
            obtain rfl := Option.some.inj H
            have p410 : 0 ≤ (x67_2 : Int) := of_decide_eq_true (by first | (with_reducible assumption) | assumption)
            have q410 : x67_2 < (t397.length : Int) := of_decide_eq_true (by first | (with_reducible assumption) | assumption)
            obtain ⟨ad410, e410, hx410_0, hx410_1, hx410_2, hx410_3⟩ := at_T29 (Kd.V_reads' HO_65.out).2.2 x67_2 p410 q410
            cases e410
            replace p410 := eq_true p410
            replace q410 := eq_true q410
            go_wp2_with (first | ((with_reducible refine gate_dst (N := 13) rfl ?_); (try (refine gate_guard (by rfl) ?_; dsimp only)); refine box_event ?hg (N := 13) ?hd (cs := #[.int .i64 0, .int .i64 0, .int .u8 0, .int .i64 0]) (t := 29) ?hr ?_; (case hd => rfl); (case hg => rfl); (case hr => first | (go_simp; done) | (go_simp; rfl)); intro gb411 hg w45 hbox hb; have n0_ := Aside0.mk (Kd.V_below (Kd.V_elderB (by (with_reducible repeat (first | apply Kd.V_alloc | apply Kd.V_drewN | apply Kd.V_drew)); exact HO_5.out) gb411 (Nat.le_of_eq hg.symm)) hb); have n1_ := Aside0.mk (Kd.V_below (Kd.V_elderB (by (with_reducible repeat (first | apply Kd.V_alloc | apply Kd.V_drewN | apply Kd.V_drew)); exact HO_6.out) gb411 (Nat.le_of_eq hg.symm)) hb); have n2_ := Aside0.mk (Kd.V_below (Kd.V_elderB (by (with_reducible repeat (first | apply Kd.V_alloc | apply Kd.V_drewN | apply Kd.V_drew)); exact HO_65.out) gb411 (Nat.le_of_eq hg.symm)) hb); have n3_ := Aside0.mk (below_step (by repeat (first | (with_reducible first | exact HB.out | apply below_alloc | apply pw_below_drewN | apply below_drew1) | exact HB.out)) hb); have n4_ := Aside0.mk (hbox); have n5_ := Aside0.mk ((by rw [hg]; exact (below_size (by repeat (first | (with_reducible first | exact HB.out | apply below_alloc | apply pw_below_drewN | apply below_drew1) | exact HB.out))) : w.heap.size ≤ gb411)); have n6_ := Aside0.mk ((by rw [hg]; exact (below_size (by repeat (first | (with_reducible first | exact HB.out | apply below_alloc | apply pw_below_drewN | apply below_drew1) | exact HB.out))) : w.heap.size ≤ gb411)); clear HO_5; clear HO_6; clear HO_65; clear HB; have HO_5 := n0_; have HO_6 := n1_; have HO_65 := n2_; have HB := n3_; have BK411 := n4_; have GW411 := n5_; have GE411 := n6_; clear n0_ n1_ n2_ n3_ n4_ n5_ n6_; clear hb hbox hg; have hcz46_0 : w45.cell? ⟨gb411, 0, none⟩ = some (.int .i64 0) := (blk_cell BK411.out 0).trans rfl; have hcz46_1 : w45.cell? ⟨gb411, 1, none⟩ = some (.int .i64 0) := (blk_cell BK411.out 1).trans rfl; have hcz46_2 : w45.cell? ⟨gb411, 2, none⟩ = some (.int .u8 0) := (blk_cell BK411.out 2).trans rfl; have hcz46_3 : w45.cell? ⟨gb411, 3, none⟩ = some (.int .i64 0) := (blk_cell BK411.out 3).trans rfl; have hfz46_0 := blk_frozen BK411.out 0; have hfz46_1 := blk_frozen BK411.out 1; have hfz46_2 := blk_frozen BK411.out 2; have hfz46_3 := blk_frozen BK411.out 3))
            go_ret
            exact ⟨by first | rfl | (simp [errW_none, errW_some] <;> rfl) | (simp [*, errW_none, errW_some] <;> rfl), by repeat (first | (with_reducible first | exact HB.out | apply below_alloc | apply pw_below_drewN | apply below_drew1 | refine below_set ?_ GE411.out) | exact HB.out)⟩
           ·rw [if_neg c44] at H
            have c44b0 : decide (((rd_T29 t397 x67_2).f0) ≤ a1) = false := decide_eq_false c44
            clear c44
            have H' := Aside0.mk H
            clear H
            have p410 : 0 ≤ (x67_2 : Int) := of_decide_eq_true (by first | (with_reducible assumption) | assumption)
            have q410 : x67_2 < (t397.length : Int) := of_decide_eq_true (by first | (with_reducible assumption) | assumption)
            obtain ⟨ad410, e410, hx410_0, hx410_1, hx410_2, hx410_3⟩ := at_T29 (Kd.V_reads' HO_65.out).2.2 x67_2 p410 q410
            cases e410
            replace p410 := eq_true p410
            replace q410 := eq_true q410
            go_wp2_with (first | ((with_reducible refine gate_dst (N := 13) rfl ?_); (try (refine gate_guard (by rfl) ?_; dsimp only)); refine box_event ?hg (N := 13) ?hd (cs := #[.int .i64 0, .int .i64 0, .int .u8 0, .int .i64 0]) (t := 29) ?hr ?_; (case hd => rfl); (case hg => rfl); (case hr => first | (go_simp; done) | (go_simp; rfl)); intro gb411 hg w47 hbox hb; have n0_ := Aside0.mk (Kd.V_below (Kd.V_elderB (by (with_reducible repeat (first | apply Kd.V_alloc | apply Kd.V_drewN | apply Kd.V_drew)); exact HO_5.out) gb411 (Nat.le_of_eq hg.symm)) hb); have n1_ := Aside0.mk (Kd.V_below (Kd.V_elderB (by (with_reducible repeat (first | apply Kd.V_alloc | apply Kd.V_drewN | apply Kd.V_drew)); exact HO_6.out) gb411 (Nat.le_of_eq hg.symm)) hb); have n2_ := Aside0.mk (Kd.V_below (Kd.V_elderB (by (with_reducible repeat (first | apply Kd.V_alloc | apply Kd.V_drewN | apply Kd.V_drew)); exact HO_65.out) gb411 (Nat.le_of_eq hg.symm)) hb); have n3_ := Aside0.mk (below_step (by repeat (first | (with_reducible first | exact HB.out | apply below_alloc | apply pw_below_drewN | apply below_drew1) | exact HB.out)) hb); have n4_ := Aside0.mk (hbox); have n5_ := Aside0.mk ((by rw [hg]; exact (below_size (by repeat (first | (with_reducible first | exact HB.out | apply below_alloc | apply pw_below_drewN | apply below_drew1) | exact HB.out))) : w.heap.size ≤ gb411)); have n6_ := Aside0.mk ((by rw [hg]; exact (below_size (by repeat (first | (with_reducible first | exact HB.out | apply below_alloc | apply pw_below_drewN | apply below_drew1) | exact HB.out))) : w.heap.size ≤ gb411)); clear HO_5; clear HO_6; clear HO_65; clear HB; have HO_5 := n0_; have HO_6 := n1_; have HO_65 := n2_; have HB := n3_; have BK411 := n4_; have GW411 := n5_; have GE411 := n6_; clear n0_ n1_ n2_ n3_ n4_ n5_ n6_; clear hb hbox hg; have hcz48_0 : w47.cell? ⟨gb411, 0, none⟩ = some (.int .i64 0) := (blk_cell BK411.out 0).trans rfl; have hcz48_1 : w47.cell? ⟨gb411, 1, none⟩ = some (.int .i64 0) := (blk_cell BK411.out 1).trans rfl; have hcz48_2 : w47.cell? ⟨gb411, 2, none⟩ = some (.int .u8 0) := (blk_cell BK411.out 2).trans rfl; have hcz48_3 : w47.cell? ⟨gb411, 3, none⟩ = some (.int .i64 0) := (blk_cell BK411.out 3).trans rfl; have hfz48_0 := blk_frozen BK411.out 0; have hfz48_1 := blk_frozen BK411.out 1; have hfz48_2 := blk_frozen BK411.out 2; have hfz48_3 := blk_frozen BK411.out 3))
            go_roundg k2
            case measure => have := HK1.out; have := HK2.out; omega
            case rel => exact ⟨(wrap64 (x67_2 + 1)), (by first | rfl | (simp; done) | (simp [*]; done)), H', ⟨by have := HK1.out; have := HK2.out; omega⟩, ⟨by (with_reducible repeat (first | apply Kd.V_alloc | apply Kd.V_drewN | apply Kd.V_drew)); exact Kd.V_mono (Kd.V_far (p := ⟨gb411, 3, none⟩) (Kd.V_far (p := ⟨gb411, 2, none⟩) (Kd.V_far (p := ⟨gb411, 1, none⟩) (Kd.V_far (p := ⟨gb411, 0, none⟩) (Kd.V_mono HO_5.out (fun k_ hk => (⟨hk, hk.2⟩ : _ ∧ k_ ≠ gb411))) (fun _ hk => hk.2) (.int .i64 ((rd_T29 t397 x67_2).f0))) (fun _ hk => hk.2) (.int .i64 ((rd_T29 t397 x67_2).f1))) (fun _ hk => hk.2) (.int .u8 ((rd_T29 t397 x67_2).f2))) (fun _ hk => hk.2) (.int .i64 ((rd_T29 t397 x67_2).f3))) (fun _ hk => trivial)⟩, ⟨by (with_reducible repeat (first | apply Kd.V_alloc | apply Kd.V_drewN | apply Kd.V_drew)); exact Kd.V_mono (Kd.V_far (p := ⟨gb411, 3, none⟩) (Kd.V_far (p := ⟨gb411, 2, none⟩) (Kd.V_far (p := ⟨gb411, 1, none⟩) (Kd.V_far (p := ⟨gb411, 0, none⟩) (Kd.V_mono HO_6.out (fun k_ hk => (⟨hk, hk.2⟩ : _ ∧ k_ ≠ gb411))) (fun _ hk => hk.2) (.int .i64 ((rd_T29 t397 x67_2).f0))) (fun _ hk => hk.2) (.int .i64 ((rd_T29 t397 x67_2).f1))) (fun _ hk => hk.2) (.int .u8 ((rd_T29 t397 x67_2).f2))) (fun _ hk => hk.2) (.int .i64 ((rd_T29 t397 x67_2).f3))) (fun _ hk => trivial)⟩, ⟨by (with_reducible repeat (first | apply Kd.V_alloc | apply Kd.V_drewN | apply Kd.V_drew)); exact Kd.V_mono (Kd.V_far (p := ⟨gb411, 3, none⟩) (Kd.V_far (p := ⟨gb411, 2, none⟩) (Kd.V_far (p := ⟨gb411, 1, none⟩) (Kd.V_far (p := ⟨gb411, 0, none⟩) (Kd.V_mono HO_65.out (fun k_ hk => (⟨hk, hk.2⟩ : _ ∧ k_ ≠ gb411))) (fun _ hk => hk.2) (.int .i64 ((rd_T29 t397 x67_2).f0))) (fun _ hk => hk.2) (.int .i64 ((rd_T29 t397 x67_2).f1))) (fun _ hk => hk.2) (.int .u8 ((rd_T29 t397 x67_2).f2))) (fun _ hk => hk.2) (.int .i64 ((rd_T29 t397 x67_2).f3))) (fun _ hk => trivial)⟩, ⟨by repeat (first | (with_reducible first | exact HB.out | apply below_alloc | apply pw_below_drewN | apply below_drew1 | refine below_set ?_ GE411.out) | exact HB.out)⟩⟩
          ·rw [if_neg c43] at H
           exact absurd H (by simp)
         ·rw [if_neg c42] at H
          exact absurd H (by simp)
        ·rw [if_neg c41] at H
         have c41b0 : decide (x67_2 < (t397.length : Int)) = false := decide_eq_false c41
         clear c41
         by_cases c49 : t405 = 0
         ·rw [if_pos c49] at H
          have c49b0 : (t405 == 0) = true := beq_iff_eq.mpr c49
          have c49b1 : (t405 != 0) = false := bne_eq_false_iff_eq.mpr c49
          clear c49
          by_cases c50 : t404 = (t400.length : Int)
          ·rw [if_pos c50] at H
           have c50b0 : (t404 == (t400.length : Int)) = true := beq_iff_eq.mpr c50
           have c50b1 : (t404 != (t400.length : Int)) = false := bne_eq_false_iff_eq.mpr c50
           clear c50
           by_cases c51 : (wrap64 ((t400.length : Int) + (t397.length : Int))) = (l0.length : Int)
           ·rw [if_pos c51] at H
            have c51b0 : ((wrap64 ((t400.length : Int) + (t397.length : Int))) == (l0.length : Int)) = true := beq_iff_eq.mpr c51
            have c51b1 : ((wrap64 ((t400.length : Int) + (t397.length : Int))) != (l0.length : Int)) = false := bne_eq_false_iff_eq.mpr c51
            clear c51
            replace H := Option.bind_eq_some_iff.mp H
            obtain ⟨t412, A520, H⟩ := H
            replace H : (some (t412 == 0)) = some r := H
            have A52 := Aside0.mk A520
            clear A520
            obtain rfl := Option.some.inj H
            go_wp2_with (first | (go_at_call 25; (with_reducible refine (heap_Check.calls k2 _ _ t397 t412 _ ?side1 ?side2 A52.out).mono ?_); (case side1 => repeat (first | exact (Kd.V_reads' HO_5.out).2.2 | (with_reducible refine Kd.C_alloc ?_ _) | (with_reducible refine Kd.C_drewN ?_ _) | (with_reducible refine Kd.C_drew ?_))); (case side2 => exact (Kd.V_reads' HO_5.out).2.1); rintro e w53 ⟨rfl, hb⟩; have n0_ := Aside0.mk (Kd.V_below (by (with_reducible repeat (first | apply Kd.V_alloc | apply Kd.V_drewN | apply Kd.V_drew)); exact HO_5.out) hb); have n1_ := Aside0.mk (Kd.V_below (by (with_reducible repeat (first | apply Kd.V_alloc | apply Kd.V_drewN | apply Kd.V_drew)); exact HO_6.out) hb); have n2_ := Aside0.mk (Kd.V_below (by (with_reducible repeat (first | apply Kd.V_alloc | apply Kd.V_drewN | apply Kd.V_drew)); exact HO_65.out) hb); have n3_ := Aside0.mk (below_step (by repeat (first | (with_reducible first | exact HB.out | apply below_alloc | apply pw_below_drewN | apply below_drew1) | exact HB.out)) hb); clear HO_5; clear HO_6; clear HO_65; clear HB; have HO_5 := n0_; have HO_6 := n1_; have HO_65 := n2_; have HB := n3_; clear n0_ n1_ n2_ n3_; (try clear hb); (try clear hb2); (try clear hk); (try clear hi)))
            go_ret
            exact ⟨by first | rfl | (simp [errW_none, errW_some] <;> rfl) | (simp [*, errW_none, errW_some] <;> rfl), by repeat (first | (with_reducible first | exact HB.out | apply below_alloc | apply pw_below_drewN | apply below_drew1) | exact HB.out)⟩
           ·rw [if_neg c51] at H
            have c51b0 : ((wrap64 ((t400.length : Int) + (t397.length : Int))) == (l0.length : Int)) = false := beq_eq_false_iff_ne.mpr c51
            have c51b1 : ((wrap64 ((t400.length : Int) + (t397.length : Int))) != (l0.length : Int)) = true := bne_iff_ne.mpr c51
            obtain rfl := Option.some.inj H
            go_wp2
            go_ret
            exact ⟨by first | rfl | (simp [errW_none, errW_some] <;> rfl) | (simp [*, errW_none, errW_some] <;> rfl), by repeat (first | (with_reducible first | exact HB.out | apply below_alloc | apply pw_below_drewN | apply below_drew1) | exact HB.out)⟩
          ·rw [if_neg c50] at H
           have c50b0 : (t404 == (t400.length : Int)) = false := beq_eq_false_iff_ne.mpr c50
           have c50b1 : (t404 != (t400.length : Int)) = true := bne_iff_ne.mpr c50
           obtain rfl := Option.some.inj H
           go_wp2
           go_ret
           exact ⟨by first | rfl | (simp [errW_none, errW_some] <;> rfl) | (simp [*, errW_none, errW_some] <;> rfl), by repeat (first | (with_reducible first | exact HB.out | apply below_alloc | apply pw_below_drewN | apply below_drew1) | exact HB.out)⟩
         ·rw [if_neg c49] at H
          have c49b0 : (t405 == 0) = false := beq_eq_false_iff_ne.mpr c49
          have c49b1 : (t405 != 0) = true := bne_iff_ne.mpr c49
          obtain rfl := Option.some.inj H
          go_wp2
          go_ret
          exact ⟨by first | rfl | (simp [errW_none, errW_some] <;> rfl) | (simp [*, errW_none, errW_some] <;> rfl), by repeat (first | (with_reducible first | exact HB.out | apply below_alloc | apply pw_below_drewN | apply below_drew1) | exact HB.out)⟩
  ·rw [if_neg c7] at H
   have c7b0 : (t403 == 0) = false := beq_eq_false_iff_ne.mpr c7
   have c7b1 : (t403 != 0) = true := bne_iff_ne.mpr c7
   by_cases c54 : t405 = t403
   ·rw [if_pos c54] at H
    have c54b0 : (t405 == t403) = true := beq_iff_eq.mpr c54
    have c54b1 : (t405 != t403) = false := bne_eq_false_iff_eq.mpr c54
    clear c54
    obtain rfl := Option.some.inj H
    go_enter Try.func11, Try.ntmps11
    go_wp2_with (first | ((with_reducible refine gate_callee (f := 29) rfl ?_); refine goesL_ (some 14) rfl rfl Try.func29 (by kernel_rfl) rfl #[] rfl (by (try simp only [List.map_toArray, List.map_cons, List.map_nil]); first | done | rfl | (simp only [List.length_drop, List.length_take]; rfl)) ?_; (with_reducible refine (bellmanlaw16_lives.calls k  true _ A3.out).mono ?_); rintro e w55 ⟨rfl, hb⟩; refine ⟨_, rfl, ?_⟩; have n0_ := Aside0.mk (below_step (by repeat (first | (with_reducible first | exact HB.out | apply below_alloc | apply pw_below_drewN | apply below_drew1) | exact HB.out)) hb); clear HB; have HB := n0_; clear n0_; (try clear hb); (try clear hb2); (try clear hk); (try clear hi)) | ((with_reducible refine gate_callee (f := 16) rfl ?_); refine goesL_ (some 19) rfl rfl Try.func16 (by kernel_rfl) rfl #[.slice A0 l0.length c0, .int .i64 a1] rfl (by (try simp only [List.map_toArray, List.map_cons, List.map_nil]); first | done | rfl | (simp only [List.length_drop, List.length_take]; rfl)) ?_; (with_reducible refine (due_Drain.calls k _ _ l0 a1 t397 t400 t403 _ ?side1 ?side2 A5.out).mono ?_); (case side1 => repeat (first | exact (Kd.C_below HR0.out HB.out) | (with_reducible refine Kd.C_alloc ?_ _) | (with_reducible refine Kd.C_drewN ?_ _) | (with_reducible refine Kd.C_drew ?_))); (case side2 => exact HC0.out); rintro e w56 ⟨v398, v401, rfl, ho0, ho1, hb⟩; refine ⟨_, rfl, ?_⟩; have n0_ := Aside0.mk (Kd.V_lower (Kd.V_mono (ok' := fun k_ => True) ho0 (fun k_ hk_ => trivial)) (below_size (by repeat (first | (with_reducible first | exact HB.out | apply below_alloc | apply pw_below_drewN | apply below_drew1) | exact HB.out)))); have n1_ := Aside0.mk (Kd.V_lower (Kd.V_mono (ok' := fun k_ => True) ho1 (fun k_ hk_ => trivial)) (below_size (by repeat (first | (with_reducible first | exact HB.out | apply below_alloc | apply pw_below_drewN | apply below_drew1) | exact HB.out)))); have n2_ := Aside0.mk (below_step (by repeat (first | (with_reducible first | exact HB.out | apply below_alloc | apply pw_below_drewN | apply below_drew1) | exact HB.out)) hb); clear HB; have HO399 := n0_; have HO402 := n1_; have HB := n2_; clear n0_ n1_ n2_; (try clear hb); (try clear hb2); (try clear hk); (try clear hi); (try clear ho0); (try clear ho1)) | ((with_reducible refine gate_callee (f := 31) rfl ?_); refine goesL_ (some 26) rfl rfl Try.func31 (by kernel_rfl) rfl #[.slice A0 l0.length c0, .int .i64 a1] rfl (by (try simp only [List.map_toArray, List.map_cons, List.map_nil]); first | done | rfl | (simp only [List.length_drop, List.length_take]; rfl)) ?_; (with_reducible refine (due_Count.calls k _ _ l0 a1 t404 t405 _ ?side1 ?side2 A6.out).mono ?_); (case side1 => repeat (first | exact (Kd.C_below HR0.out HB.out) | (with_reducible refine Kd.C_alloc ?_ _) | (with_reducible refine Kd.C_drewN ?_ _) | (with_reducible refine Kd.C_drew ?_))); (case side2 => exact HC0.out); rintro e w57 ⟨rfl, hb⟩; refine ⟨_, rfl, ?_⟩; have n0_ := Aside0.mk (Kd.V_below (by (with_reducible repeat (first | apply Kd.V_alloc | apply Kd.V_drewN | apply Kd.V_drew)); exact HO399.out) hb); have n1_ := Aside0.mk (Kd.V_below (by (with_reducible repeat (first | apply Kd.V_alloc | apply Kd.V_drewN | apply Kd.V_drew)); exact HO402.out) hb); have n2_ := Aside0.mk (below_step (by repeat (first | (with_reducible first | exact HB.out | apply below_alloc | apply pw_below_drewN | apply below_drew1) | exact HB.out)) hb); clear HO399; clear HO402; clear HB; have HO399 := n0_; have HO402 := n1_; have HB := n2_; clear n0_ n1_ n2_; (try clear hb); (try clear hb2); (try clear hk); (try clear hi); obtain ⟨Ao58, co58, eo58⟩ := Kd.V_slice HO399.out; subst eo58))
    go_ret
    exact ⟨by first | rfl | (simp [errW_none, errW_some] <;> rfl) | (simp [*, errW_none, errW_some] <;> rfl), by repeat (first | (with_reducible first | exact HB.out | apply below_alloc | apply pw_below_drewN | apply below_drew1) | exact HB.out)⟩
   ·rw [if_neg c54] at H
    exact absurd H (by simp)
 ·replace c4 := Bool.eq_false_iff.mpr c4
  subst c4
  have H1 : (none) = some r := by rw [if_neg (show ¬ (false = true) by decide)] at H; exact H
  clear H
  have H := H1
  clear H1
  exact absurd H (by simp)

end Go.Proofs.Ytlpbolkbdcgmnaa.XD
-- squeezed
