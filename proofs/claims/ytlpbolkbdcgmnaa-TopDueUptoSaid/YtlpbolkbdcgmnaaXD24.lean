-- by px.py, a program of this session, over the kit's printer: functions given by hand stand beside printed ones. Lean checks all of it.
import Derived.Test.YtlpbolkbdcgmnaaXD0
import Derived.Test.YtlpbolkbdcgmnaaXD3
import Derived.Test.YtlpbolkbdcgmnaaXD6
import Derived.Test.YtlpbolkbdcgmnaaXD22
import Derived.Test.YtlpbolkbdcgmnaaXD23
namespace Go.Proofs.Ytlpbolkbdcgmnaa.XD
open Go.RowKit Go.Proofs.YtlpbolkbdcgmnaaW.PrintWords Go.Proofs.YtlpbolkbdcgmnaaW.PrintLast Go.Proofs.YtlpbolkbdcgmnaaW.PrintMore
attribute [local go_sem] max2_int min2_int max_two min_two max_three min_three max_four min_four   -- for this text's walks alone
set_option linter.unusedVariables false
set_option linter.unusedSimpArgs false

/-! ### bellmantop_TopDue: function 3 -/
mutual
def bellmantop_TopDue.j0 : Nat → List (S29) → List Int → Int → Bool → Option (Bool)
 | 0, _, _, _, _ => none
 | k + 1, x0, x1, x2, x30 => if x30 = true then (some true) else ((heap_Make.f x0).bind fun bt446 => (if bt446.2 = 0 then ((heap_Cancel.f k bt446.1 x2).bind fun bt450 => (if bt450.2.2.2.2.2 = 0 then (bellmantop_TopDue.j1 k x1 x2 bt450.1 (wrap64 ((x0.length : Int) - 1))) else (bellmantop_TopDue.j1 k x1 x2 bt450.1 (x0.length : Int)))) else (some true)))
def bellmantop_TopDue.j1 : Nat → List Int → Int → List (S29) → Int → Option (Bool)
 | 0, _, _, _, _ => none
 | k + 1, x1, x2, x7, x11 => (some (([] : List Int) : List Int)).bind fun y460 => (if y460.length + x1.length < 17592186044416 then ((some (y460 ++ x1 : List Int)).bind fun y463 => ((some (([4611686018427387904, 9223372036854775807] : List Int) : List Int)).bind fun y466 => (if y463.length + y466.length < 17592186044416 then ((some (y463 ++ y466 : List Int)).bind fun y469 => (bellmantop_TopDue.l0 k x2 x7 x11 0 y469 (y469.length : Int) 0 0 0 0 0)) else (none)))) else (none))
def bellmantop_TopDue.l0 : Nat → Int → List (S29) → Int → Int → List Int → Int → Int → Int → Int → Int → Int → Option (Bool)
 | 0, _, _, _, _, _, _, _, _, _, _, _ => none
 | k + 1, x2, x7, x11, x13, x55, x56, x57, x460000, x460001, x460002, x460003 => if x57 < x56 then (if 0 ≤ x57 then (if x57 < (x55.length : Int) then ((due_Drain.f k x7 (rd x55 x57)).bind fun bt473 => (if bt473.2.2 = 0 then (bellmantop_TopDue.l1 k x2 x11 x13 (rd x55 x57) bt473.1 x55 x56 x57 bt473.2.1 (bt473.2.1.length : Int) 0 x460000 x460001 x460002 x460003) else (some false))) else (none)) else (none)) else (if (x7.length : Int) = 0 then (some (x13 == x11)) else (some false))
def bellmantop_TopDue.l1 : Nat → Int → Int → Int → Int → List (S29) → List Int → Int → Int → List (S29) → Int → Int → Int → Int → Int → Int → Option (Bool)
 | 0, _, _, _, _, _, _, _, _, _, _, _, _, _, _, _ => none
 | k + 1, x2, x11, x13, x15, x16, x55, x56, x57, x70, x71, x72, x460000, x460001, x460002, x460003 => if x72 < x71 then (if 0 ≤ x72 then (if x72 < (x70.length : Int) then (if ((rd_T29 x70 x72).f1) = x2 then (some false) else (if ((rd_T29 x70 x72).f0) > x15 then (some false) else (if x72 > 0 then (if ((rd_T29 x70 x72).f0) < x460000 then (some false) else (if ((rd_T29 x70 x72).f0) = x460000 then (if ((rd_T29 x70 x72).f1) ≤ x460001 then (some false) else (bellmantop_TopDue.l1 k x2 x11 (wrap64 (x13 + 1)) x15 x16 x55 x56 x57 x70 x71 (wrap64 (x72 + 1)) ((rd_T29 x70 x72).f0) ((rd_T29 x70 x72).f1) ((rd_T29 x70 x72).f2) ((rd_T29 x70 x72).f3))) else (bellmantop_TopDue.l1 k x2 x11 (wrap64 (x13 + 1)) x15 x16 x55 x56 x57 x70 x71 (wrap64 (x72 + 1)) ((rd_T29 x70 x72).f0) ((rd_T29 x70 x72).f1) ((rd_T29 x70 x72).f2) ((rd_T29 x70 x72).f3)))) else (bellmantop_TopDue.l1 k x2 x11 (wrap64 (x13 + 1)) x15 x16 x55 x56 x57 x70 x71 (wrap64 (x72 + 1)) ((rd_T29 x70 x72).f0) ((rd_T29 x70 x72).f1) ((rd_T29 x70 x72).f2) ((rd_T29 x70 x72).f3))))) else (none)) else (none)) else (bellmantop_TopDue.l0 k x2 x16 x11 x13 x55 x56 (wrap64 (x57 + 1)) x460000 x460001 x460002 x460003)
end
def bellmantop_TopDue.f (k : Nat) (l0 : List (S29)) (l1 : List Int) (a2 : Int) : Option (Bool) := (bellmantop_begins.f).bind fun t445 => (if t445 = true then (if (l0.length : Int) > 100 then (bellmantop_TopDue.j0 k l0 l1 a2 true) else (bellmantop_TopDue.j0 k l0 l1 a2 (decide ((l1.length : Int) > 20)))) else (none))
theorem bellmantop_TopDue.mono_l : ∀ k, (∀ y0 y1 y2 y3, LeO (bellmantop_TopDue.j0 k y0 y1 y2 y3) (bellmantop_TopDue.j0 (k + 1) y0 y1 y2 y3)) ∧ (∀ y0 y1 y2 y3, LeO (bellmantop_TopDue.j1 k y0 y1 y2 y3) (bellmantop_TopDue.j1 (k + 1) y0 y1 y2 y3)) ∧ (∀ y0 y1 y2 y3 y4 y5 y6 y7 y8 y9 y10, LeO (bellmantop_TopDue.l0 k y0 y1 y2 y3 y4 y5 y6 y7 y8 y9 y10) (bellmantop_TopDue.l0 (k + 1) y0 y1 y2 y3 y4 y5 y6 y7 y8 y9 y10)) ∧ (∀ y0 y1 y2 y3 y4 y5 y6 y7 y8 y9 y10 y11 y12 y13 y14, LeO (bellmantop_TopDue.l1 k y0 y1 y2 y3 y4 y5 y6 y7 y8 y9 y10 y11 y12 y13 y14) (bellmantop_TopDue.l1 (k + 1) y0 y1 y2 y3 y4 y5 y6 y7 y8 y9 y10 y11 y12 y13 y14))
 | 0 => ⟨fun _ _ _ _ r h => by simp [bellmantop_TopDue.j0] at h, fun _ _ _ _ r h => by simp [bellmantop_TopDue.j1] at h, fun _ _ _ _ _ _ _ _ _ _ _ r h => by simp [bellmantop_TopDue.l0] at h, fun _ _ _ _ _ _ _ _ _ _ _ _ _ _ _ r h => by simp [bellmantop_TopDue.l1] at h⟩
 | k + 1 => by
  obtain ⟨ih0, ih1, ih2, ih3⟩ := bellmantop_TopDue.mono_l k
  refine ⟨?_, ?_, ?_, ?_⟩
  ·intro y0 y1 y2 y3
   unfold bellmantop_TopDue.j0
   repeat' first
   | (with_reducible exact ih0 _ _ _ _)
   | (with_reducible exact ih1 _ _ _ _)
   | (with_reducible exact ih2 _ _ _ _ _ _ _ _ _ _ _)
   | (with_reducible exact ih3 _ _ _ _ _ _ _ _ _ _ _ _ _ _ _)
   | (with_reducible exact due_Drain.mono _ _ _)
   | (with_reducible exact heap_Cancel.mono _ _ _)
   | (with_reducible exact LeO.refl _)
   | (with_reducible exact LeO.none _)
   | (with_reducible refine LeO.ite ?_ ?_)
   | (with_reducible refine LeO.bind ?_ (fun _ => ?_))
   | exact ih0 _ _ _ _
   | exact ih1 _ _ _ _
   | exact ih2 _ _ _ _ _ _ _ _ _ _ _
   | exact ih3 _ _ _ _ _ _ _ _ _ _ _ _ _ _ _
   | exact due_Drain.mono _ _ _
   | exact heap_Cancel.mono _ _ _
   | exact LeO.none _
   | refine LeO.ite ?_ ?_
   | refine LeO.bind ?_ (fun _ => ?_)
  ·intro y0 y1 y2 y3
   unfold bellmantop_TopDue.j1
   repeat' first
   | (with_reducible exact ih0 _ _ _ _)
   | (with_reducible exact ih1 _ _ _ _)
   | (with_reducible exact ih2 _ _ _ _ _ _ _ _ _ _ _)
   | (with_reducible exact ih3 _ _ _ _ _ _ _ _ _ _ _ _ _ _ _)
   | (with_reducible exact due_Drain.mono _ _ _)
   | (with_reducible exact heap_Cancel.mono _ _ _)
   | (with_reducible exact LeO.refl _)
   | (with_reducible exact LeO.none _)
   | (with_reducible refine LeO.ite ?_ ?_)
   | (with_reducible refine LeO.bind ?_ (fun _ => ?_))
   | exact ih0 _ _ _ _
   | exact ih1 _ _ _ _
   | exact ih2 _ _ _ _ _ _ _ _ _ _ _
   | exact ih3 _ _ _ _ _ _ _ _ _ _ _ _ _ _ _
   | exact due_Drain.mono _ _ _
   | exact heap_Cancel.mono _ _ _
   | exact LeO.none _
   | refine LeO.ite ?_ ?_
   | refine LeO.bind ?_ (fun _ => ?_)
  ·intro y0 y1 y2 y3 y4 y5 y6 y7 y8 y9 y10
   unfold bellmantop_TopDue.l0
   repeat' first
   | (with_reducible exact ih0 _ _ _ _)
   | (with_reducible exact ih1 _ _ _ _)
   | (with_reducible exact ih2 _ _ _ _ _ _ _ _ _ _ _)
   | (with_reducible exact ih3 _ _ _ _ _ _ _ _ _ _ _ _ _ _ _)
   | (with_reducible exact due_Drain.mono _ _ _)
   | (with_reducible exact heap_Cancel.mono _ _ _)
   | (with_reducible exact LeO.refl _)
   | (with_reducible exact LeO.none _)
   | (with_reducible refine LeO.ite ?_ ?_)
   | (with_reducible refine LeO.bind ?_ (fun _ => ?_))
   | exact ih0 _ _ _ _
   | exact ih1 _ _ _ _
   | exact ih2 _ _ _ _ _ _ _ _ _ _ _
   | exact ih3 _ _ _ _ _ _ _ _ _ _ _ _ _ _ _
   | exact due_Drain.mono _ _ _
   | exact heap_Cancel.mono _ _ _
   | exact LeO.none _
   | refine LeO.ite ?_ ?_
   | refine LeO.bind ?_ (fun _ => ?_)
  ·intro y0 y1 y2 y3 y4 y5 y6 y7 y8 y9 y10 y11 y12 y13 y14
   unfold bellmantop_TopDue.l1
   repeat' first
   | (with_reducible exact ih0 _ _ _ _)
   | (with_reducible exact ih1 _ _ _ _)
   | (with_reducible exact ih2 _ _ _ _ _ _ _ _ _ _ _)
   | (with_reducible exact ih3 _ _ _ _ _ _ _ _ _ _ _ _ _ _ _)
   | (with_reducible exact due_Drain.mono _ _ _)
   | (with_reducible exact heap_Cancel.mono _ _ _)
   | (with_reducible exact LeO.refl _)
   | (with_reducible exact LeO.none _)
   | (with_reducible refine LeO.ite ?_ ?_)
   | (with_reducible refine LeO.bind ?_ (fun _ => ?_))
   | exact ih0 _ _ _ _
   | exact ih1 _ _ _ _
   | exact ih2 _ _ _ _ _ _ _ _ _ _ _
   | exact ih3 _ _ _ _ _ _ _ _ _ _ _ _ _ _ _
   | exact due_Drain.mono _ _ _
   | exact heap_Cancel.mono _ _ _
   | exact LeO.none _
   | refine LeO.ite ?_ ?_
   | refine LeO.bind ?_ (fun _ => ?_)
theorem bellmantop_TopDue.mono : ∀ a0 a1 a2 k, LeO (bellmantop_TopDue.f k a0 a1 a2) (bellmantop_TopDue.f (k + 1) a0 a1 a2) := by
 intro a0 a1 a2 k
 obtain ⟨ih0, ih1, ih2, ih3⟩ := bellmantop_TopDue.mono_l k
 unfold bellmantop_TopDue.f
 repeat' first
   | (with_reducible exact ih0 _ _ _ _)
   | (with_reducible exact ih1 _ _ _ _)
   | (with_reducible exact ih2 _ _ _ _ _ _ _ _ _ _ _)
   | (with_reducible exact ih3 _ _ _ _ _ _ _ _ _ _ _ _ _ _ _)
   | (with_reducible exact due_Drain.mono _ _ _)
   | (with_reducible exact heap_Cancel.mono _ _ _)
   | (with_reducible exact LeO.refl _)
   | (with_reducible exact LeO.none _)
   | (with_reducible refine LeO.ite ?_ ?_)
   | (with_reducible refine LeO.bind ?_ (fun _ => ?_))
   | exact ih0 _ _ _ _
   | exact ih1 _ _ _ _
   | exact ih2 _ _ _ _ _ _ _ _ _ _ _
   | exact ih3 _ _ _ _ _ _ _ _ _ _ _ _ _ _ _
   | exact due_Drain.mono _ _ _
   | exact heap_Cancel.mono _ _ _
   | exact LeO.none _
   | refine LeO.ite ?_ ?_
   | refine LeO.bind ?_ (fun _ => ?_)
set_option maxHeartbeats 8000000 in
set_option maxRecDepth 100000 in
theorem bellmantop_TopDue.calls (k : Nat) (A0 : Option Addr) (c0 : Nat) (l0 : List (S29)) (A1 : Option Addr) (c1 : Nat) (l1 : List Int) (a2 : Int) (r : Bool) (w : World) (hr0 : Kd.C k29 w A0 l0.length l0) (hc0 : l0.length ≤ c0) (hr1 : Kd.C (Kd.int .i64) w A1 l1.length l1) (hc1 : l1.length ≤ c1) (h : bellmantop_TopDue.f k l0 l1 a2 = some r) :
  Calls Try.prog 3 #[.slice A0 l0.length c0, .slice A1 l1.length c1, .int .i64 a2] w fun e w' => e = .returned (.bool r) ∧ Below w.heap.size w w' := by
 have hu29 := Try.underlying29
 have HR0 := Aside0.mk hr0
 have HC0 := Aside0.mk hc0
 clear hr0 hc0
 have HR1 := Aside0.mk hr1
 have HC1 := Aside0.mk hc1
 clear hr1 hc1
 have HB := Aside0.mk (Below.refl w.heap.size w)
 have H : ((bellmantop_begins.f).bind fun t445 => (if t445 = true then (if (l0.length : Int) > 100 then (bellmantop_TopDue.j0 k l0 l1 a2 true) else (bellmantop_TopDue.j0 k l0 l1 a2 (decide ((l1.length : Int) > 20)))) else (none))) = some r := h
 clear h
 replace H := Option.bind_eq_some_iff.mp H
 obtain ⟨t445, A40, H⟩ := H
 replace H : (if t445 = true then (if (l0.length : Int) > 100 then (bellmantop_TopDue.j0 k l0 l1 a2 true) else (bellmantop_TopDue.j0 k l0 l1 a2 (decide ((l1.length : Int) > 20)))) else (none)) = some r := H
 have A4 := Aside0.mk A40
 clear A40
 by_cases c5 : t445 = true
 ·subst c5
  have H1 : (if (l0.length : Int) > 100 then (bellmantop_TopDue.j0 k l0 l1 a2 true) else (bellmantop_TopDue.j0 k l0 l1 a2 (decide ((l1.length : Int) > 20)))) = some r := by rw [if_pos rfl] at H; exact H
  clear H
  have H := H1
  clear H1
  have HC6 := Aside0.mk H
  clear H
  go_enter Try.func3, Try.ntmps3
  go_upto_region 3 with (first | ((with_reducible refine gate_callee (f := 13) rfl ?_); refine goesL_ (some 21) rfl rfl Try.func13 (by kernel_rfl) rfl #[] rfl (by (try simp only [List.map_toArray, List.map_cons, List.map_nil]); first | done | rfl | (simp only [List.length_drop, List.length_take]; rfl)) ?_; (with_reducible refine (bellmantop_begins.calls  true _ A4.out).mono ?_); rintro e w7 ⟨rfl, hb⟩; refine ⟨_, rfl, ?_⟩; have n0_ := Aside0.mk (below_step (by repeat (first | (with_reducible first | exact HB.out | apply below_alloc | apply pw_below_drewN | apply below_drew1) | exact HB.out)) hb); clear HB; have HB := n0_; clear n0_; (try clear hb); (try clear hb2); (try clear hk); (try clear hi)))
  (try simp only [Act.put, List.setIfInBounds_toArray, List.set_cons_zero, List.set_cons_succ])
  go_cut [30] (fun v30 wc => ∃ (kq : Nat) (x30_5 : Bool), v30 = .bool x30_5 ∧ Aside0 (bellmantop_TopDue.j0 kq l0 l1 a2 x30_5 = some r) ∧ Aside0 (kq ≤ k) ∧ Aside0 (Below w.heap.size w wc))
  case first =>
   have H := HC6.out
   clear HC6
   by_cases c8 : (l0.length : Int) > 100
   ·rw [if_pos c8] at H
    have c8b0 : decide (100 < (l0.length : Int)) = true := decide_eq_true c8
    have c8b1 : decide (100 < l0.length) = true := decide_eq_true (by omega)
    clear c8
    (first | rw [c8b0] | (simp only [i64_w, i32_w]; rw [c8b0]) | skip)
    have H' := Aside0.mk H
    clear H
    go_wp2
    go_meet
    case rel => exact ⟨_, (true), (by first | rfl | (simp; done) | (simp [*]; done)), H', ⟨by first | omega | exact Nat.le_refl _⟩, ⟨by repeat (first | (with_reducible first | exact HB.out | apply below_alloc | apply pw_below_drewN | apply below_drew1) | exact HB.out)⟩⟩
   ·rw [if_neg c8] at H
    have c8b0 : decide (100 < (l0.length : Int)) = false := decide_eq_false c8
    have c8b1 : decide (100 < l0.length) = false := decide_eq_false (by omega)
    clear c8
    (first | rw [c8b0] | (simp only [i64_w, i32_w]; rw [c8b0]) | skip)
    have H' := Aside0.mk H
    clear H
    go_wp2
    go_meet
    case rel => exact ⟨_, (decide ((l1.length : Int) > 20)), (by first | rfl | (simp; done) | (simp [*]; done)), H', ⟨by first | omega | exact Nat.le_refl _⟩, ⟨by repeat (first | (with_reducible first | exact HB.out | apply below_alloc | apply pw_below_drewN | apply below_drew1) | exact HB.out)⟩⟩
  case rest =>
   clear HC6
   try clear c1
   try clear p2
   try clear c3
   try clear c5
   try clear c8
   try clear c8b0
   try clear c8b1
   obtain ⟨kq, x30_5, rfl, HA, HJ5, HB⟩ := hcut
   cases kq with
   | zero => exact absurd HA.out (by simp [bellmantop_TopDue.j0])
   | succ kj5 =>
    have H := HA.out
    clear HA
    simp only [bellmantop_TopDue.j0] at H
    by_cases c9 : x30_5 = true
    ·subst c9
     have H1 : (some true) = some r := by rw [if_pos rfl] at H; exact H
     clear H
     have H := H1
     clear H1
     obtain rfl := Option.some.inj H
     go_wp2
     go_ret
     exact ⟨by first | rfl | (simp [errW_none, errW_some] <;> rfl) | (simp [*, errW_none, errW_some] <;> rfl), by repeat (first | (with_reducible first | exact HB.out | apply below_alloc | apply pw_below_drewN | apply below_drew1) | exact HB.out)⟩
    ·replace c9 := Bool.eq_false_iff.mpr c9
     subst c9
     have H1 : ((heap_Make.f l0).bind fun bt446 => (if bt446.2 = 0 then ((heap_Cancel.f kj5 bt446.1 a2).bind fun bt450 => (if bt450.2.2.2.2.2 = 0 then (bellmantop_TopDue.j1 kj5 l1 a2 bt450.1 (wrap64 ((l0.length : Int) - 1))) else (bellmantop_TopDue.j1 kj5 l1 a2 bt450.1 (l0.length : Int)))) else (some true))) = some r := by rw [if_neg (show ¬ (false = true) by decide)] at H; exact H
     clear H
     have H := H1
     clear H1
     replace H := Option.bind_eq_some_iff.mp H
     obtain ⟨⟨t446, t449⟩, A100, H⟩ := H
     replace H : (if t449 = 0 then ((heap_Cancel.f kj5 t446 a2).bind fun bt450 => (if bt450.2.2.2.2.2 = 0 then (bellmantop_TopDue.j1 kj5 l1 a2 bt450.1 (wrap64 ((l0.length : Int) - 1))) else (bellmantop_TopDue.j1 kj5 l1 a2 bt450.1 (l0.length : Int)))) else (some true)) = some r := H
     have A10 := Aside0.mk A100
     clear A100
     by_cases c11 : t449 = 0
     ·rw [if_pos c11] at H
      have c11b0 : (t449 == 0) = true := beq_iff_eq.mpr c11
      have c11b1 : (t449 != 0) = false := bne_eq_false_iff_eq.mpr c11
      clear c11
      replace H := Option.bind_eq_some_iff.mp H
      obtain ⟨⟨t450, t453, t454, t455, t456, t457⟩, A120, H⟩ := H
      replace H : (if t457 = 0 then (bellmantop_TopDue.j1 kj5 l1 a2 t450 (wrap64 ((l0.length : Int) - 1))) else (bellmantop_TopDue.j1 kj5 l1 a2 t450 (l0.length : Int))) = some r := H
      have A12 := Aside0.mk A120
      clear A120
      have HC13 := Aside0.mk H
      clear H
      go_upto_if 48 with (first | ((with_reducible refine gate_callee (f := 14) rfl ?_); refine goesL_ (some 33) rfl rfl Try.func14 (by kernel_rfl) rfl #[.slice A0 l0.length c0] rfl (by (try simp only [List.map_toArray, List.map_cons, List.map_nil]); first | done | rfl | (simp only [List.length_drop, List.length_take]; rfl)) ?_; (with_reducible refine (heap_Make.calls _ _ l0 t446 t449 _ ?side1 ?side2 A10.out).mono ?_); (case side1 => repeat (first | exact (Kd.C_below HR0.out HB.out) | (with_reducible refine Kd.C_alloc ?_ _) | (with_reducible refine Kd.C_drewN ?_ _) | (with_reducible refine Kd.C_drew ?_))); (case side2 => exact HC0.out); rintro e w14 ⟨v447, rfl, ho0, hb⟩; refine ⟨_, rfl, ?_⟩; have n0_ := Aside0.mk (Kd.V_lower (Kd.V_mono (ok' := fun k_ => True) ho0 (fun k_ hk_ => trivial)) (below_size (by repeat (first | (with_reducible first | exact HB.out | apply below_alloc | apply pw_below_drewN | apply below_drew1) | exact HB.out)))); have n1_ := Aside0.mk (below_step (by repeat (first | (with_reducible first | exact HB.out | apply below_alloc | apply pw_below_drewN | apply below_drew1) | exact HB.out)) hb); clear HB; have HO448 := n0_; have HB := n1_; clear n0_ n1_; (try clear hb); (try clear hb2); (try clear hk); (try clear hi); (try clear ho0); obtain ⟨Ao15, co15, eo15⟩ := Kd.V_slice HO448.out; subst eo15) | ((with_reducible refine gate_callee (f := 15) rfl ?_); refine goesL_ (some 41) rfl rfl Try.func15 (by kernel_rfl) rfl #[.slice Ao15 t446.length co15, .int .i64 a2] rfl (by (try simp only [List.map_toArray, List.map_cons, List.map_nil]); first | done | rfl | (simp only [List.length_drop, List.length_take]; rfl)) ?_; (with_reducible refine (heap_Cancel.calls kj5 _ _ t446 a2 t450 t453 t454 t455 t456 t457 _ ?side1 ?side2 A12.out).mono ?_); (case side1 => repeat (first | exact (Kd.V_reads' HO448.out).2.2 | (with_reducible refine Kd.C_alloc ?_ _) | (with_reducible refine Kd.C_drewN ?_ _) | (with_reducible refine Kd.C_drew ?_))); (case side2 => exact (Kd.V_reads' HO448.out).2.1); rintro e w16 ⟨v451, rfl, ho0, hb⟩; refine ⟨_, rfl, ?_⟩; have n0_ := Aside0.mk (Kd.V_below (by (with_reducible repeat (first | apply Kd.V_alloc | apply Kd.V_drewN | apply Kd.V_drew)); exact HO448.out) hb); have n1_ := Aside0.mk (Kd.V_lower (Kd.V_mono (ok' := fun k_ => True) ho0 (fun k_ hk_ => trivial)) (below_size (by repeat (first | (with_reducible first | exact HB.out | apply below_alloc | apply pw_below_drewN | apply below_drew1) | exact HB.out)))); have n2_ := Aside0.mk (below_step (by repeat (first | (with_reducible first | exact HB.out | apply below_alloc | apply pw_below_drewN | apply below_drew1) | exact HB.out)) hb); clear HO448; clear HB; have HO448 := n0_; have HO452 := n1_; have HB := n2_; clear n0_ n1_ n2_; (try clear hb); (try clear hb2); (try clear hk); (try clear hi); (try clear ho0)) | ((with_reducible refine gate_dst (N := 9) rfl ?_); (try (refine gate_guard (by rfl) ?_; dsimp only)); refine box_event ?hg (N := 9) ?hd (cs := #[.int .i64 0, .int .i64 0, .int .u8 0, .int .i64 0]) (t := 29) ?hr ?_; (case hd => rfl); (case hg => rfl); (case hr => first | (go_simp; done) | (go_simp; rfl)); intro gb458 hg w17 hbox hb; have n0_ := Aside0.mk (Kd.V_below (Kd.V_elderB (by (with_reducible repeat (first | apply Kd.V_alloc | apply Kd.V_drewN | apply Kd.V_drew)); exact HO448.out) gb458 (Nat.le_of_eq hg.symm)) hb); have n1_ := Aside0.mk (Kd.V_below (Kd.V_elderB (by (with_reducible repeat (first | apply Kd.V_alloc | apply Kd.V_drewN | apply Kd.V_drew)); exact HO452.out) gb458 (Nat.le_of_eq hg.symm)) hb); have n2_ := Aside0.mk (below_step (by repeat (first | (with_reducible first | exact HB.out | apply below_alloc | apply pw_below_drewN | apply below_drew1) | exact HB.out)) hb); have n3_ := Aside0.mk (hbox); have n4_ := Aside0.mk ((by rw [hg]; exact (below_size (by repeat (first | (with_reducible first | exact HB.out | apply below_alloc | apply pw_below_drewN | apply below_drew1) | exact HB.out))) : w.heap.size ≤ gb458)); have n5_ := Aside0.mk ((by rw [hg]; exact (below_size (by repeat (first | (with_reducible first | exact HB.out | apply below_alloc | apply pw_below_drewN | apply below_drew1) | exact HB.out))) : w.heap.size ≤ gb458)); clear HO448; clear HO452; clear HB; have HO448 := n0_; have HO452 := n1_; have HB := n2_; have BK458 := n3_; have GW458 := n4_; have GE458 := n5_; clear n0_ n1_ n2_ n3_ n4_ n5_; clear hb hbox hg; have hcz18_0 : w17.cell? ⟨gb458, 0, none⟩ = some (.int .i64 0) := (blk_cell BK458.out 0).trans rfl; have hcz18_1 : w17.cell? ⟨gb458, 1, none⟩ = some (.int .i64 0) := (blk_cell BK458.out 1).trans rfl; have hcz18_2 : w17.cell? ⟨gb458, 2, none⟩ = some (.int .u8 0) := (blk_cell BK458.out 2).trans rfl; have hcz18_3 : w17.cell? ⟨gb458, 3, none⟩ = some (.int .i64 0) := (blk_cell BK458.out 3).trans rfl; have hfz18_0 := blk_frozen BK458.out 0; have hfz18_1 := blk_frozen BK458.out 1; have hfz18_2 := blk_frozen BK458.out 2; have hfz18_3 := blk_frozen BK458.out 3))
      (try simp only [Act.put, List.setIfInBounds_toArray, List.set_cons_zero, List.set_cons_succ])
      go_cut [11] (fun v11 wc => ∃ (kq : Nat) (x11_12 : Int), v11 = .int .i64 x11_12 ∧ Aside0 (bellmantop_TopDue.j1 kq l1 a2 t450 x11_12 = some r) ∧ Aside0 (kq ≤ kj5) ∧ Aside0 (Kd.V k29 29 wc w.heap.size (fun k_ => k_ ≠ gb458) v451 t450) ∧ Aside0 (wc.heap[gb458]? = some (.cells #[.int .i64 t453, .int .i64 t454, .int .u8 t455, .int .i64 t456] 29 (0, 0))) ∧ Aside0 (Below w.heap.size w wc))
      case first =>
       have H := HC13.out
       clear HC13
       by_cases c19 : t457 = 0
       ·rw [if_pos c19] at H
        have c19b0 : (t457 == 0) = true := beq_iff_eq.mpr c19
        have c19b1 : (t457 != 0) = false := bne_eq_false_iff_eq.mpr c19
        clear c19
        (first | rw [c19b0] | (simp only [i64_w, i32_w]; rw [c19b0]) | skip)
        have H' := Aside0.mk H
        clear H
        go_wp2
        go_meet
        case rel => exact ⟨_, (wrap64 ((l0.length : Int) - 1)), (by first | rfl | (simp; done) | (simp [*]; done)), H', ⟨by have := HJ5.out; first | omega | exact Nat.le_refl _⟩, ⟨by (with_reducible repeat (first | apply Kd.V_alloc | apply Kd.V_drewN | apply Kd.V_drew)); exact Kd.V_mono (Kd.V_far (p := ⟨gb458, 3, none⟩) (Kd.V_far (p := ⟨gb458, 2, none⟩) (Kd.V_far (p := ⟨gb458, 1, none⟩) (Kd.V_far (p := ⟨gb458, 0, none⟩) (Kd.V_mono HO452.out (fun k_ hk => (⟨hk, hk.2⟩ : _ ∧ k_ ≠ gb458))) (fun _ hk => hk.2) (.int .i64 t453)) (fun _ hk => hk.2) (.int .i64 t454)) (fun _ hk => hk.2) (.int .u8 t455)) (fun _ hk => hk.2) (.int .i64 t456)) (fun _ hk => hk.1.2)⟩, ⟨by (with_reducible repeat (first | refine blk_drewN ?_ _ | refine blk_drew ?_ | refine blk_alloc ?_ _)); refine blk_put (cs := #[.int .i64 t453, .int .i64 t454, .int .u8 t455, .int .i64 0]) ?_ 3 _ rfl; (with_reducible repeat (first | refine blk_drewN ?_ _ | refine blk_drew ?_ | refine blk_alloc ?_ _)); refine blk_put (cs := #[.int .i64 t453, .int .i64 t454, .int .u8 0, .int .i64 0]) ?_ 2 _ rfl; (with_reducible repeat (first | refine blk_drewN ?_ _ | refine blk_drew ?_ | refine blk_alloc ?_ _)); refine blk_put (cs := #[.int .i64 t453, .int .i64 0, .int .u8 0, .int .i64 0]) ?_ 1 _ rfl; (with_reducible repeat (first | refine blk_drewN ?_ _ | refine blk_drew ?_ | refine blk_alloc ?_ _)); refine blk_put (cs := #[.int .i64 0, .int .i64 0, .int .u8 0, .int .i64 0]) ?_ 0 _ rfl; (with_reducible repeat (first | refine blk_drewN ?_ _ | refine blk_drew ?_ | refine blk_alloc ?_ _)); exact BK458.out⟩, ⟨by repeat (first | (with_reducible first | exact HB.out | apply below_alloc | apply pw_below_drewN | apply below_drew1 | refine below_set ?_ GE458.out) | exact HB.out)⟩⟩
       ·rw [if_neg c19] at H
        have c19b0 : (t457 == 0) = false := beq_eq_false_iff_ne.mpr c19
        have c19b1 : (t457 != 0) = true := bne_iff_ne.mpr c19
        (first | rw [c19b0] | (simp only [i64_w, i32_w]; rw [c19b0]) | skip)
        have H' := Aside0.mk H
        clear H
        go_wp2
        go_meet
        case rel => exact ⟨_, ((l0.length : Int)), (by first | rfl | (simp; done) | (simp [*]; done)), H', ⟨by have := HJ5.out; first | omega | exact Nat.le_refl _⟩, ⟨by (with_reducible repeat (first | apply Kd.V_alloc | apply Kd.V_drewN | apply Kd.V_drew)); exact Kd.V_mono (Kd.V_far (p := ⟨gb458, 3, none⟩) (Kd.V_far (p := ⟨gb458, 2, none⟩) (Kd.V_far (p := ⟨gb458, 1, none⟩) (Kd.V_far (p := ⟨gb458, 0, none⟩) (Kd.V_mono HO452.out (fun k_ hk => (⟨hk, hk.2⟩ : _ ∧ k_ ≠ gb458))) (fun _ hk => hk.2) (.int .i64 t453)) (fun _ hk => hk.2) (.int .i64 t454)) (fun _ hk => hk.2) (.int .u8 t455)) (fun _ hk => hk.2) (.int .i64 t456)) (fun _ hk => hk.1.2)⟩, ⟨by (with_reducible repeat (first | refine blk_drewN ?_ _ | refine blk_drew ?_ | refine blk_alloc ?_ _)); refine blk_put (cs := #[.int .i64 t453, .int .i64 t454, .int .u8 t455, .int .i64 0]) ?_ 3 _ rfl; (with_reducible repeat (first | refine blk_drewN ?_ _ | refine blk_drew ?_ | refine blk_alloc ?_ _)); refine blk_put (cs := #[.int .i64 t453, .int .i64 t454, .int .u8 0, .int .i64 0]) ?_ 2 _ rfl; (with_reducible repeat (first | refine blk_drewN ?_ _ | refine blk_drew ?_ | refine blk_alloc ?_ _)); refine blk_put (cs := #[.int .i64 t453, .int .i64 0, .int .u8 0, .int .i64 0]) ?_ 1 _ rfl; (with_reducible repeat (first | refine blk_drewN ?_ _ | refine blk_drew ?_ | refine blk_alloc ?_ _)); refine blk_put (cs := #[.int .i64 0, .int .i64 0, .int .u8 0, .int .i64 0]) ?_ 0 _ rfl; (with_reducible repeat (first | refine blk_drewN ?_ _ | refine blk_drew ?_ | refine blk_alloc ?_ _)); exact BK458.out⟩, ⟨by repeat (first | (with_reducible first | exact HB.out | apply below_alloc | apply pw_below_drewN | apply below_drew1 | refine below_set ?_ GE458.out) | exact HB.out)⟩⟩
      case rest =>
       clear HC13
       try clear c1
       try clear p2
       try clear c3
       try clear c5
       try clear p6
       try clear c8
       try clear c8b0
       try clear c8b1
       try clear c9
       try clear c11
       try clear c11b0
       try clear c11b1
       try clear c13
       try clear c14
       try clear c15
       try clear c19
       try clear c19b0
       try clear c19b1
       try clear hcz18_0
       try clear hcz18_1
       try clear hcz18_2
       try clear hcz18_3
       try clear hfz18_0
       try clear hfz18_1
       try clear hfz18_2
       try clear hfz18_3
       try clear p2
       obtain ⟨kq, x11_12, rfl, HA, HJ12, HO_7, BK458, HB⟩ := hcut
       cases kq with
       | zero => exact absurd HA.out (by simp [bellmantop_TopDue.j1])
       | succ kj12 =>
        have H := HA.out
        clear HA
        simp only [bellmantop_TopDue.j1] at H
        obtain ⟨y460, hy460⟩ : ∃ y_ : List Int, y_ = (([] : List Int)) := ⟨_, rfl⟩
        replace H : (if y460.length + l1.length < 17592186044416 then ((some (y460 ++ l1 : List Int)).bind fun y463 => ((some (([4611686018427387904, 9223372036854775807] : List Int) : List Int)).bind fun y466 => (if y463.length + y466.length < 17592186044416 then ((some (y463 ++ y466 : List Int)).bind fun y469 => (bellmantop_TopDue.l0 kj12 a2 t450 x11_12 0 y469 (y469.length : Int) 0 0 0 0 0)) else (none)))) else (none)) = some r := by first | (rw [hy460]; with_reducible exact H) | (have H2_ := (Option.bind_some _ _).symm.trans H; rw [hy460]; with_reducible exact H2_) | (have H2_ := (Option.bind_some _ _).symm.trans H; with_reducible exact H2_) | with_reducible exact H | (rw [hy460]; exact H) | exact H
        have Ny460 := Aside0.mk hy460
        clear hy460
        by_cases c20 : y460.length + l1.length < 17592186044416
        ·rw [if_pos c20] at H
         have LMc20 := Aside0.mk c20
         clear c20
         obtain ⟨y463, hy463⟩ : ∃ y_ : List Int, y_ = (y460 ++ l1) := ⟨_, rfl⟩
         replace H : ((some (([4611686018427387904, 9223372036854775807] : List Int) : List Int)).bind fun y466 => (if y463.length + y466.length < 17592186044416 then ((some (y463 ++ y466 : List Int)).bind fun y469 => (bellmantop_TopDue.l0 kj12 a2 t450 x11_12 0 y469 (y469.length : Int) 0 0 0 0 0)) else (none))) = some r := by first | (rw [hy463]; with_reducible exact H) | (have H2_ := (Option.bind_some _ _).symm.trans H; rw [hy463]; with_reducible exact H2_) | (have H2_ := (Option.bind_some _ _).symm.trans H; with_reducible exact H2_) | with_reducible exact H | (rw [hy463]; exact H) | exact H
         have Ny463 := Aside0.mk hy463
         clear hy463
         obtain ⟨y466, hy466⟩ : ∃ y_ : List Int, y_ = (([4611686018427387904, 9223372036854775807] : List Int)) := ⟨_, rfl⟩
         replace H : (if y463.length + y466.length < 17592186044416 then ((some (y463 ++ y466 : List Int)).bind fun y469 => (bellmantop_TopDue.l0 kj12 a2 t450 x11_12 0 y469 (y469.length : Int) 0 0 0 0 0)) else (none)) = some r := by first | (rw [hy466]; with_reducible exact H) | (have H2_ := (Option.bind_some _ _).symm.trans H; rw [hy466]; with_reducible exact H2_) | (have H2_ := (Option.bind_some _ _).symm.trans H; with_reducible exact H2_) | with_reducible exact H | (rw [hy466]; exact H) | exact H
         have Ny466 := Aside0.mk hy466
         clear hy466
         by_cases c21 : y463.length + y466.length < 17592186044416
         ·rw [if_pos c21] at H
          have LMc21 := Aside0.mk c21
          clear c21
          obtain ⟨y469, hy469⟩ : ∃ y_ : List Int, y_ = (y463 ++ y466) := ⟨_, rfl⟩
          replace H : (bellmantop_TopDue.l0 kj12 a2 t450 x11_12 0 y469 (y469.length : Int) 0 0 0 0 0) = some r := by first | (rw [hy469]; with_reducible exact H) | (have H2_ := (Option.bind_some _ _).symm.trans H; rw [hy469]; with_reducible exact H2_) | (have H2_ := (Option.bind_some _ _).symm.trans H; with_reducible exact H2_) | with_reducible exact H | (rw [hy469]; exact H) | exact H
          have Ny469 := Aside0.mk hy469
          clear hy469
          have H' := Aside0.mk H
          clear H
          go_wp2_with (first | ((with_reducible refine gate_dst (N := 12) rfl ?_); (try (refine gate_guard (by rfl) ?_; dsimp only)); refine box_event ?hg (N := 12) ?hd (cs := #[.int .i64 0, .int .i64 0, .int .u8 0, .int .i64 0]) (t := 29) ?hr ?_; (case hd => rfl); (case hg => rfl); (case hr => first | (go_simp; done) | (go_simp; rfl)); intro gb459 hg w22 hbox hb; have n0_ := Aside0.mk (Kd.V_below (Kd.V_elderB (by (with_reducible repeat (first | apply Kd.V_alloc | apply Kd.V_drewN | apply Kd.V_drew)); exact HO_7.out) gb459 (Nat.le_of_eq hg.symm)) hb); have n1_ := Aside0.mk (blk_below (g := gb458) (o := .cells #[.int .i64 t453, .int .i64 t454, .int .u8 t455, .int .i64 t456] 29 (0, 0)) (by (with_reducible repeat (first | refine blk_drewN ?_ _ | refine blk_drew ?_ | refine blk_alloc ?_ _)); exact BK458.out) hb); have n2_ := Aside0.mk (below_step (by repeat (first | (with_reducible first | exact HB.out | apply below_alloc | apply pw_below_drewN | apply below_drew1 | refine below_set ?_ GE458.out) | exact HB.out)) hb); have n3_ := Aside0.mk (hbox); have n4_ := Aside0.mk ((by rw [hg]; exact (below_size (by repeat (first | (with_reducible first | exact HB.out | apply below_alloc | apply pw_below_drewN | apply below_drew1 | refine below_set ?_ GE458.out) | exact HB.out))) : w.heap.size ≤ gb459)); have n5_ := Aside0.mk ((by rw [hg]; exact (below_size (by repeat (first | (with_reducible first | exact HB.out | apply below_alloc | apply pw_below_drewN | apply below_drew1 | refine below_set ?_ GE458.out) | exact HB.out))) : w.heap.size ≤ gb459)); have n6_ := Aside0.mk ((by rw [hg]; exact Nat.ne_of_lt (blk_lt (g := gb458) (o := .cells #[.int .i64 t453, .int .i64 t454, .int .u8 t455, .int .i64 t456] 29 (0, 0)) (by (with_reducible repeat (first | refine blk_drewN ?_ _ | refine blk_drew ?_ | refine blk_alloc ?_ _)); exact BK458.out)) : gb458 ≠ gb459)); have n7_ := Aside0.mk ((by rw [hg]; exact Nat.ne_of_gt (blk_lt (g := gb458) (o := .cells #[.int .i64 t453, .int .i64 t454, .int .u8 t455, .int .i64 t456] 29 (0, 0)) (by (with_reducible repeat (first | refine blk_drewN ?_ _ | refine blk_drew ?_ | refine blk_alloc ?_ _)); exact BK458.out)) : gb459 ≠ gb458)); clear HO_7; clear BK458; clear HB; have HO_7 := n0_; have BK458 := n1_; have HB := n2_; have BK459 := n3_; have GW459 := n4_; have GE459 := n5_; have NB458_459 := n6_; have NB459_458 := n7_; clear n0_ n1_ n2_ n3_ n4_ n5_ n6_ n7_; clear hb hbox hg) | ((with_reducible refine gate_dst (N := 51) rfl ?_); (try (refine gate_guard (by rfl) ?_; dsimp only)); refine Kd.R_lit (Kd.int .i64) _ 2 ?hg (N := 51) ?hd (xs := ([] : List Int)) (inner := []) (ok := fun _ => True) (okp := fun _ => True) ?hr ?hp (fun _ hk => hk) trivial (Below.refl _ _) (Nat.le_refl _) (by simp) ?_; (case hd => rfl); (case hg => rfl); (case hr => first | (go_simp; done) | (go_simp; rfl)); (case hp => exact (Reps.none _ _)); intro v461 w23 ho24 hb hg_ hnew_; clear hg_ hnew_; (first | rw [← Ny460.out] at ho24 | (simp only [Int.reduceToNat] at ho24; rw [← Ny460.out] at ho24)); have n0_ := Aside0.mk (Kd.V_elder' (by (with_reducible repeat (first | apply Kd.V_alloc | apply Kd.V_drewN | apply Kd.V_drew)); exact HO_7.out) (Kd.R_base ho24) hb); have n1_ := Aside0.mk (Kd.R_lower ho24 (below_size (by repeat (first | (with_reducible first | exact HB.out | apply below_alloc | apply pw_below_drewN | apply below_drew1 | refine below_set ?_ GE458.out | refine below_set ?_ GE459.out) | exact HB.out)))); have n2_ := Aside0.mk (blk_below (g := gb458) (o := .cells #[.int .i64 t453, .int .i64 t454, .int .u8 t455, .int .i64 t456] 29 (0, 0)) (by (with_reducible repeat (first | refine blk_drewN ?_ _ | refine blk_drew ?_ | refine blk_alloc ?_ _)); exact BK458.out) hb); have n3_ := Aside0.mk (blk_below (g := gb459) (o := .cells #[.int .i64 0, .int .i64 0, .int .u8 0, .int .i64 0] 29 (0, 0)) (by (with_reducible repeat (first | refine blk_drewN ?_ _ | refine blk_drew ?_ | refine blk_alloc ?_ _)); exact BK459.out) hb); have n4_ := Aside0.mk (below_step (by repeat (first | (with_reducible first | exact HB.out | apply below_alloc | apply pw_below_drewN | apply below_drew1 | refine below_set ?_ GE458.out | refine below_set ?_ GE459.out) | exact HB.out)) hb); clear HO_7; clear BK458; clear BK459; clear HB; have HO_7 := n0_; have HO462 := n1_; have BK458 := n2_; have BK459 := n3_; have HB := n4_; clear n0_ n1_ n2_ n3_ n4_; clear hb ho24) | ((with_reducible refine gate_builtin (b := .append) (xs := #[.tmp 51, .tmp 52]) rfl ?_); (try (refine gate_guard (by rfl) ?_; dsimp only)); at_builtin; refine Kd.R_append_rows (Kd.int .i64) (w0 := w) w.heap.size rfl (.tmp 51) (.tmp 52) 23 2 (.int .i64 0) 8 rfl Try.underlying23 info2 rfl (by decide) (by omega) v461 y460 l1 _ _ _ (fun _ => True) (fun _ => False) rfl rfl ?aO ?aR (fun _ _ h => h) (fun _ h => h.elim) ?aF ?aB ?aS ?aL ?_; (case aR => repeat (first | exact (Kd.C_below HR1.out HB.out) | (with_reducible refine Kd.C_alloc ?_ _) | (with_reducible refine Kd.C_drewN ?_ _) | (with_reducible refine Kd.C_drew ?_))); (case aB => exact (by repeat (first | (with_reducible first | exact HB.out | apply below_alloc | apply pw_below_drewN | apply below_drew1 | refine below_set ?_ GE458.out | refine below_set ?_ GE459.out) | exact HB.out))); (case aF => exact (fun _ _ => trivial)); (case aO => exact (by (with_reducible repeat (first | apply Kd.R_alloc | apply Kd.R_drewN | apply Kd.R_drew)); exact HO462.out)); (case aS => exact (below_size (by repeat (first | (with_reducible first | exact HB.out | apply below_alloc | apply pw_below_drewN | apply below_drew1 | refine below_set ?_ GE458.out | refine below_set ?_ GE459.out) | exact HB.out)))); (case aL => have := LMc20.out; omega); intro v464 w25 ho hb hg hat; rw [← Ny463.out] at ho; have n0_ := Aside0.mk (Kd.V_afterv (ok := (fun k_ => k_ ≠ gb458 ∧ k_ ≠ gb459)) (by (with_reducible repeat (first | apply Kd.V_alloc | apply Kd.V_drewN | apply Kd.V_drew)); exact HO_7.out) hg hat); have n1_ := Aside0.mk (blk_grown (g := gb458) (o := .cells #[.int .i64 t453, .int .i64 t454, .int .u8 t455, .int .i64 t456] 29 (0, 0)) (by (with_reducible repeat (first | refine blk_drewN ?_ _ | refine blk_drew ?_ | refine blk_alloc ?_ _)); exact BK458.out) hg (Kd.R_ne HO462.out BK458.out (by decide))); have n2_ := Aside0.mk (blk_grown (g := gb459) (o := .cells #[.int .i64 0, .int .i64 0, .int .u8 0, .int .i64 0] 29 (0, 0)) (by (with_reducible repeat (first | refine blk_drewN ?_ _ | refine blk_drew ?_ | refine blk_alloc ?_ _)); exact BK459.out) hg (Kd.R_ne HO462.out BK459.out (by decide))); have n3_ := Aside0.mk (hb); have n4_ := Aside0.mk (ho); clear HO_7; clear BK458; clear BK459; clear HB; clear HO462; have HO_7 := n0_; have BK458 := n1_; have BK459 := n2_; have HB := n3_; have HO465 := n4_; clear n0_ n1_ n2_ n3_ n4_; clear ho hb hg hat) | ((with_reducible refine gate_dst (N := 54) rfl ?_); (try (refine gate_guard (by rfl) ?_; dsimp only)); refine Kd.R_lit (Kd.int .i64) _ 2 ?hg (N := 54) ?hd (xs := ([4611686018427387904, 9223372036854775807] : List Int)) (inner := [.int .i64 4611686018427387904, .int .i64 9223372036854775807]) (ok := fun _ => True) (okp := fun _ => True) ?hr ?hp (fun _ hk => hk) trivial (Below.refl _ _) (Nat.le_refl _) (by simp) ?_; (case hd => rfl); (case hg => rfl); (case hr => first | (go_simp; done) | (go_simp; rfl)); (case hp => exact (Reps.one (show Kd.M (Kd.int .i64) _ _ _ 4611686018427387904 [.int .i64 4611686018427387904] from rfl) (Reps.one (show Kd.M (Kd.int .i64) _ _ _ 9223372036854775807 [.int .i64 9223372036854775807] from rfl) (Reps.none _ _)))); intro v467 w26 ho27 hb hg_ hnew_; clear hg_ hnew_; (first | rw [← Ny466.out] at ho27 | (simp only [Int.reduceToNat] at ho27; rw [← Ny466.out] at ho27)); have n0_ := Aside0.mk (Kd.V_elder' (by (with_reducible repeat (first | apply Kd.V_alloc | apply Kd.V_drewN | apply Kd.V_drew)); exact HO_7.out) (Kd.R_base ho27) hb); have n1_ := Aside0.mk (Kd.R_elder' (by (with_reducible repeat (first | apply Kd.R_alloc | apply Kd.R_drewN | apply Kd.R_drew)); exact HO465.out) (Kd.R_base ho27) hb); have n2_ := Aside0.mk (Kd.R_lower (Kd.R_new' ho27 (Kd.R_lt (by (with_reducible repeat (first | apply Kd.R_alloc | apply Kd.R_drewN | apply Kd.R_drew)); exact HO465.out))) (below_size (by repeat (first | (with_reducible first | exact HB.out | apply below_alloc | apply pw_below_drewN | apply below_drew1 | refine below_set ?_ GE458.out | refine below_set ?_ GE459.out) | exact HB.out)))); have n3_ := Aside0.mk (blk_below (g := gb458) (o := .cells #[.int .i64 t453, .int .i64 t454, .int .u8 t455, .int .i64 t456] 29 (0, 0)) (by (with_reducible repeat (first | refine blk_drewN ?_ _ | refine blk_drew ?_ | refine blk_alloc ?_ _)); exact BK458.out) hb); have n4_ := Aside0.mk (blk_below (g := gb459) (o := .cells #[.int .i64 0, .int .i64 0, .int .u8 0, .int .i64 0] 29 (0, 0)) (by (with_reducible repeat (first | refine blk_drewN ?_ _ | refine blk_drew ?_ | refine blk_alloc ?_ _)); exact BK459.out) hb); have n5_ := Aside0.mk (below_step (by repeat (first | (with_reducible first | exact HB.out | apply below_alloc | apply pw_below_drewN | apply below_drew1 | refine below_set ?_ GE458.out | refine below_set ?_ GE459.out) | exact HB.out)) hb); clear HO_7; clear HO465; clear BK458; clear BK459; clear HB; have HO_7 := n0_; have HO465 := n1_; have HO468 := n2_; have BK458 := n3_; have BK459 := n4_; have HB := n5_; clear n0_ n1_ n2_ n3_ n4_ n5_; clear hb ho27; obtain ⟨Ao29, co29, eo29⟩ := Kd.R_slice HO468.out; subst eo29) | ((with_reducible refine gate_builtin (b := .append) (xs := #[.tmp 53, .tmp 54]) rfl ?_); (try (refine gate_guard (by rfl) ?_; dsimp only)); at_builtin; refine Kd.R_append_rows (Kd.int .i64) (w0 := w) w.heap.size rfl (.tmp 53) (.tmp 54) 23 2 (.int .i64 0) 8 rfl Try.underlying23 info2 rfl (by decide) (by omega) v464 y463 y466 _ _ _ (fun k_ => some k_ ≠ (.slice Ao29 y466.length co29 : Value).ownBlock) (fun _ => False) rfl rfl ?aO ?aR (fun _ _ h => h) (fun _ h => h.elim) ?aF ?aB ?aS ?aL ?_; (case aR => repeat (first | exact (Kd.R_reads' HO468.out).2.2 | (with_reducible refine Kd.C_alloc ?_ _) | (with_reducible refine Kd.C_drewN ?_ _) | (with_reducible refine Kd.C_drew ?_))); (case aB => exact (by repeat (first | (with_reducible first | exact HB.out | apply below_alloc | apply pw_below_drewN | apply below_drew1 | refine below_set ?_ GE458.out | refine below_set ?_ GE459.out) | exact HB.out))); (case aF => exact (fun k_ hk => Kd.fresh' (Kd.R_lt (by (with_reducible repeat (first | apply Kd.R_alloc | apply Kd.R_drewN | apply Kd.R_drew)); exact HO468.out)) k_ hk)); (case aO => exact (by (with_reducible repeat (first | apply Kd.R_alloc | apply Kd.R_drewN | apply Kd.R_drew)); exact Kd.R_mono HO465.out (fun _ hk => hk.2))); (case aS => exact (below_size (by repeat (first | (with_reducible first | exact HB.out | apply below_alloc | apply pw_below_drewN | apply below_drew1 | refine below_set ?_ GE458.out | refine below_set ?_ GE459.out) | exact HB.out)))); (case aL => have := LMc21.out; omega); intro v470 w28 ho hb hg hat; rw [← Ny469.out] at ho; have n0_ := Aside0.mk (Kd.V_afterv (ok := (fun k_ => some k_ ≠ (.slice Ao29 y466.length co29 : Value).ownBlock ∧ k_ ≠ gb458 ∧ k_ ≠ gb459)) (by (with_reducible repeat (first | apply Kd.V_alloc | apply Kd.V_drewN | apply Kd.V_drew)); exact Kd.V_mono HO_7.out (fun _ hk => ⟨⟨hk.2, ⟨hk.1.1.1, hk.1.1.2⟩⟩, hk.1.2⟩)) hg hat); have n1_ := Aside0.mk (blk_grown (g := gb458) (o := .cells #[.int .i64 t453, .int .i64 t454, .int .u8 t455, .int .i64 t456] 29 (0, 0)) (by (with_reducible repeat (first | refine blk_drewN ?_ _ | refine blk_drew ?_ | refine blk_alloc ?_ _)); exact BK458.out) hg (Kd.R_ne HO465.out BK458.out (by decide))); have n2_ := Aside0.mk (blk_grown (g := gb459) (o := .cells #[.int .i64 0, .int .i64 0, .int .u8 0, .int .i64 0] 29 (0, 0)) (by (with_reducible repeat (first | refine blk_drewN ?_ _ | refine blk_drew ?_ | refine blk_alloc ?_ _)); exact BK459.out) hg (Kd.R_ne HO465.out BK459.out (by decide))); have n3_ := Aside0.mk (Kd.R_after (ok := (fun _ => True)) (by (with_reducible repeat (first | apply Kd.R_alloc | apply Kd.R_drewN | apply Kd.R_drew)); exact HO468.out) hg hat); have n4_ := Aside0.mk (hb); have n5_ := Aside0.mk (ho); clear HO_7; clear BK458; clear BK459; clear HO468; clear HB; clear HO465; have HO_7 := n0_; have BK458 := n1_; have BK459 := n2_; have HO468 := n3_; have HB := n4_; have HO471 := n5_; clear n0_ n1_ n2_ n3_ n4_ n5_; clear ho hb hg hat; obtain ⟨Ao30, co30, eo30⟩ := Kd.R_slice HO471.out; subst eo30))
          go_loopg [7, 13, 57] kj12 (fun kq v7 v13 v57 w' => ∃ (x7_3 : List (S29)) (x13_3 : Int) (x57_3 : Int) (x460000_3 : Int) (x460001_3 : Int) (x460002_3 : Int) (x460003_3 : Int), v13 = .int .i64 x13_3 ∧ v57 = .int .i64 x57_3 ∧ Aside0 (bellmantop_TopDue.l0 kq a2 x7_3 x11_12 x13_3 y469 (y469.length : Int) x57_3 x460000_3 x460001_3 x460002_3 x460003_3 = some r) ∧ Aside0 (kq ≤ kj12) ∧ Aside0 (Kd.V k29 29 w' w.heap.size (fun k_ => some k_ ≠ ((.slice Ao30 y469.length co30) : Value).ownBlock ∧ k_ ≠ gb458 ∧ k_ ≠ gb459) v7 x7_3) ∧ Aside0 (Kd.R (Kd.int .i64) 2 w' w.heap.size (fun _ => True) (.slice Ao30 y469.length co30) y469) ∧ Aside0 (w'.heap[gb458]? = some (.cells #[.int .i64 t453, .int .i64 t454, .int .u8 t455, .int .i64 t456] 29 (0, 0))) ∧ Aside0 (w'.heap[gb459]? = some (.cells #[.int .i64 x460000_3, .int .i64 x460001_3, .int .u8 x460002_3, .int .i64 x460003_3] 29 (0, 0))) ∧ Aside0 (Below w.heap.size w w'))
          case atStart => exact ⟨(t450), (0), (0), (0), (0), (0), (0), (by first | rfl | (simp; done) | (simp [*]; done)), (by first | rfl | (simp; done) | (simp [*]; done)), H', ⟨Nat.le_refl _⟩, ⟨by (with_reducible repeat (first | apply Kd.V_alloc | apply Kd.V_drewN | apply Kd.V_drew)); exact Kd.V_mono HO_7.out (fun _ hk => ⟨hk.2, ⟨hk.1.2.1, hk.1.2.2⟩⟩)⟩, ⟨by (with_reducible repeat (first | apply Kd.R_alloc | apply Kd.R_drewN | apply Kd.R_drew)); exact Kd.R_mono HO471.out (fun _ hk => trivial)⟩, ⟨by (with_reducible repeat (first | refine blk_drewN ?_ _ | refine blk_drew ?_ | refine blk_alloc ?_ _)); exact BK458.out⟩, ⟨by (with_reducible repeat (first | refine blk_drewN ?_ _ | refine blk_drew ?_ | refine blk_alloc ?_ _)); exact BK459.out⟩, ⟨by repeat (first | (with_reducible first | exact HB.out | apply below_alloc | apply pw_below_drewN | apply below_drew1 | refine below_set ?_ GE458.out | refine below_set ?_ GE459.out) | exact HB.out)⟩⟩
          case round =>
           clear H'
           try clear c1
           try clear c2
           try clear p2
           try clear c3
           try clear c5
           try clear p6
           try clear c8
           try clear c8b0
           try clear c8b1
           try clear c9
           try clear c11
           try clear c11b0
           try clear c11b1
           try clear c13
           try clear c14
           try clear c15
           try clear c19
           try clear c19b0
           try clear c19b1
           try clear c20
           try clear c21
           try clear hcz18_0
           try clear hcz18_1
           try clear hcz18_2
           try clear hcz18_3
           try clear hfz18_0
           try clear hfz18_1
           try clear hfz18_2
           try clear hfz18_3
           try clear p2
           try clear p6
           obtain ⟨x7_3, x13_3, x57_3, x460000_3, x460001_3, x460002_3, x460003_3, rfl, rfl, HA, HK3, HO_7, HO_55, BK458, BK459, HB⟩ := hrel
           cases gk with
           | zero => exact absurd HA.out (by simp [bellmantop_TopDue.l0])
           | succ k3 =>
            have H := HA.out
            clear HA
            simp only [bellmantop_TopDue.l0] at H
            by_cases c31 : x57_3 < (y469.length : Int)
            ·rw [if_pos c31] at H
             have c31b0 : decide (x57_3 < (y469.length : Int)) = true := decide_eq_true c31
             clear c31
             by_cases c32 : 0 ≤ x57_3
             ·rw [if_pos c32] at H
              have c32b0 : decide (0 ≤ x57_3) = true := decide_eq_true c32
              clear c32
              by_cases c33 : x57_3 < (y469.length : Int)
              ·rw [if_pos c33] at H
               have c33b0 : decide (x57_3 < (y469.length : Int)) = true := decide_eq_true c33
               clear c33
               replace H := Option.bind_eq_some_iff.mp H
               obtain ⟨⟨t473, t476, t479⟩, A340, H⟩ := H
               replace H : (if t479 = 0 then (bellmantop_TopDue.l1 k3 a2 x11_12 x13_3 (rd y469 x57_3) t473 y469 (y469.length : Int) x57_3 t476 (t476.length : Int) 0 x460000_3 x460001_3 x460002_3 x460003_3) else (some false)) = some r := H
               have A34 := Aside0.mk A340
               clear A340
               by_cases c35 : t479 = 0
               ·rw [if_pos c35] at H
                have c35b0 : (t479 == 0) = true := beq_iff_eq.mpr c35
                have c35b1 : (t479 != 0) = false := bne_eq_false_iff_eq.mpr c35
                clear c35
                have H' := Aside0.mk H
                clear H
                have p472 : 0 ≤ (x57_3 : Int) := of_decide_eq_true (by first | (with_reducible assumption) | assumption)
                have q472 : x57_3 < (y469.length : Int) := of_decide_eq_true (by first | (with_reducible assumption) | assumption)
                obtain ⟨ad472, e472, hx472_0⟩ := Kd.at_int (Kd.R_reads' HO_55.out).2.2 x57_3 p472 q472
                cases e472
                replace p472 := eq_true p472
                replace q472 := eq_true q472
                obtain ⟨Ao36, co36, eo36⟩ := Kd.V_slice HO_7.out
                subst eo36
                go_wp2_with (first | ((with_reducible refine gate_callee (f := 16) rfl ?_); refine goesL_ (some 64) rfl rfl Try.func16 (by kernel_rfl) rfl #[.slice Ao36 x7_3.length co36, .int .i64 (rd y469 x57_3)] rfl (by (try simp only [List.map_toArray, List.map_cons, List.map_nil]); first | done | rfl | (simp only [List.length_drop, List.length_take]; rfl)) ?_; (with_reducible refine (due_Drain.calls k3 _ _ x7_3 (rd y469 x57_3) t473 t476 t479 _ ?side1 ?side2 A34.out).mono ?_); (case side1 => repeat (first | exact (Kd.V_reads' HO_7.out).2.2 | (with_reducible refine Kd.C_alloc ?_ _) | (with_reducible refine Kd.C_drewN ?_ _) | (with_reducible refine Kd.C_drew ?_))); (case side2 => exact (Kd.V_reads' HO_7.out).2.1); rintro e w37 ⟨v474, v477, rfl, ho0, ho1, hb⟩; refine ⟨_, rfl, ?_⟩; have n0_ := Aside0.mk (Kd.V_below (by (with_reducible repeat (first | apply Kd.V_alloc | apply Kd.V_drewN | apply Kd.V_drew)); exact HO_7.out) hb); have n1_ := Aside0.mk (Kd.R_below (by (with_reducible repeat (first | apply Kd.R_alloc | apply Kd.R_drewN | apply Kd.R_drew)); exact HO_55.out) hb); have n2_ := Aside0.mk (Kd.V_lower (Kd.V_mono (ok' := fun k_ => some k_ ≠ (.slice (some ad472) y469.length co30 : Value).ownBlock ∧ k_ ≠ gb458 ∧ k_ ≠ gb459) ho0 (fun k_ hk_ => ⟨(Kd.fresh' (Kd.R_lt (by (with_reducible repeat (first | apply Kd.R_alloc | apply Kd.R_drewN | apply Kd.R_drew)); exact HO_55.out)) k_ hk_), (Kd.freshB (g := gb458) (o := .cells #[.int .i64 t453, .int .i64 t454, .int .u8 t455, .int .i64 t456] 29 (0, 0)) (by (with_reducible repeat (first | refine blk_drewN ?_ _ | refine blk_drew ?_ | refine blk_alloc ?_ _)); exact BK458.out) k_ hk_), (Kd.freshB (g := gb459) (o := .cells #[.int .i64 x460000_3, .int .i64 x460001_3, .int .u8 x460002_3, .int .i64 x460003_3] 29 (0, 0)) (by (with_reducible repeat (first | refine blk_drewN ?_ _ | refine blk_drew ?_ | refine blk_alloc ?_ _)); exact BK459.out) k_ hk_)⟩)) (below_size (by repeat (first | (with_reducible first | exact HB.out | apply below_alloc | apply pw_below_drewN | apply below_drew1 | refine below_set ?_ GE458.out | refine below_set ?_ GE459.out) | exact HB.out)))); have n3_ := Aside0.mk (Kd.V_lower (Kd.V_mono (ok' := fun k_ => some k_ ≠ (.slice (some ad472) y469.length co30 : Value).ownBlock ∧ k_ ≠ gb458 ∧ k_ ≠ gb459) ho1 (fun k_ hk_ => ⟨(Kd.fresh' (Kd.R_lt (by (with_reducible repeat (first | apply Kd.R_alloc | apply Kd.R_drewN | apply Kd.R_drew)); exact HO_55.out)) k_ hk_), (Kd.freshB (g := gb458) (o := .cells #[.int .i64 t453, .int .i64 t454, .int .u8 t455, .int .i64 t456] 29 (0, 0)) (by (with_reducible repeat (first | refine blk_drewN ?_ _ | refine blk_drew ?_ | refine blk_alloc ?_ _)); exact BK458.out) k_ hk_), (Kd.freshB (g := gb459) (o := .cells #[.int .i64 x460000_3, .int .i64 x460001_3, .int .u8 x460002_3, .int .i64 x460003_3] 29 (0, 0)) (by (with_reducible repeat (first | refine blk_drewN ?_ _ | refine blk_drew ?_ | refine blk_alloc ?_ _)); exact BK459.out) k_ hk_)⟩)) (below_size (by repeat (first | (with_reducible first | exact HB.out | apply below_alloc | apply pw_below_drewN | apply below_drew1 | refine below_set ?_ GE458.out | refine below_set ?_ GE459.out) | exact HB.out)))); have n4_ := Aside0.mk (blk_below (g := gb458) (o := .cells #[.int .i64 t453, .int .i64 t454, .int .u8 t455, .int .i64 t456] 29 (0, 0)) (by (with_reducible repeat (first | refine blk_drewN ?_ _ | refine blk_drew ?_ | refine blk_alloc ?_ _)); exact BK458.out) hb); have n5_ := Aside0.mk (blk_below (g := gb459) (o := .cells #[.int .i64 x460000_3, .int .i64 x460001_3, .int .u8 x460002_3, .int .i64 x460003_3] 29 (0, 0)) (by (with_reducible repeat (first | refine blk_drewN ?_ _ | refine blk_drew ?_ | refine blk_alloc ?_ _)); exact BK459.out) hb); have n6_ := Aside0.mk (below_step (by repeat (first | (with_reducible first | exact HB.out | apply below_alloc | apply pw_below_drewN | apply below_drew1 | refine below_set ?_ GE458.out | refine below_set ?_ GE459.out) | exact HB.out)) hb); clear HO_7; clear HO_55; clear BK458; clear BK459; clear HB; have HO_7 := n0_; have HO_55 := n1_; have HO475 := n2_; have HO478 := n3_; have BK458 := n4_; have BK459 := n5_; have HB := n6_; clear n0_ n1_ n2_ n3_ n4_ n5_ n6_; (try clear hb); (try clear hb2); (try clear hk); (try clear hi); (try clear ho0); (try clear ho1); obtain ⟨Ao38, co38, eo38⟩ := Kd.V_slice HO478.out; subst eo38))
                go_loopg [13, 72] k3 (fun kq v13 v72 w' => ∃ (x13_4 : Int) (x72_4 : Int) (x460000_4 : Int) (x460001_4 : Int) (x460002_4 : Int) (x460003_4 : Int), v13 = .int .i64 x13_4 ∧ v72 = .int .i64 x72_4 ∧ Aside0 (bellmantop_TopDue.l1 kq a2 x11_12 x13_4 (rd y469 x57_3) t473 y469 (y469.length : Int) x57_3 t476 (t476.length : Int) x72_4 x460000_4 x460001_4 x460002_4 x460003_4 = some r) ∧ Aside0 (kq ≤ k3) ∧ Aside0 (Kd.V k29 29 w' w.heap.size (fun k_ => some k_ ≠ ((.slice (some ad472) y469.length co30) : Value).ownBlock ∧ k_ ≠ gb458 ∧ k_ ≠ gb459) v474 t473) ∧ Aside0 (Kd.R (Kd.int .i64) 2 w' w.heap.size (fun _ => True) (.slice (some ad472) y469.length co30) y469) ∧ Aside0 (Kd.V k29 29 w' w.heap.size (fun k_ => some k_ ≠ ((.slice (some ad472) y469.length co30) : Value).ownBlock ∧ k_ ≠ gb458 ∧ k_ ≠ gb459) (.slice Ao38 t476.length co38) t476) ∧ Aside0 (w'.heap[gb458]? = some (.cells #[.int .i64 t453, .int .i64 t454, .int .u8 t455, .int .i64 t456] 29 (0, 0))) ∧ Aside0 (w'.heap[gb459]? = some (.cells #[.int .i64 x460000_4, .int .i64 x460001_4, .int .u8 x460002_4, .int .i64 x460003_4] 29 (0, 0))) ∧ Aside0 (Below w.heap.size w w'))
                case atStart => exact ⟨(x13_3), (0), (x460000_3), (x460001_3), (x460002_3), (x460003_3), (by first | rfl | (simp; done) | (simp [*]; done)), (by first | rfl | (simp; done) | (simp [*]; done)), H', ⟨Nat.le_refl _⟩, ⟨by (with_reducible repeat (first | apply Kd.V_alloc | apply Kd.V_drewN | apply Kd.V_drew)); exact HO475.out⟩, ⟨by (with_reducible repeat (first | apply Kd.R_alloc | apply Kd.R_drewN | apply Kd.R_drew)); exact HO_55.out⟩, ⟨by (with_reducible repeat (first | apply Kd.V_alloc | apply Kd.V_drewN | apply Kd.V_drew)); exact HO478.out⟩, ⟨by (with_reducible repeat (first | refine blk_drewN ?_ _ | refine blk_drew ?_ | refine blk_alloc ?_ _)); exact BK458.out⟩, ⟨by (with_reducible repeat (first | refine blk_drewN ?_ _ | refine blk_drew ?_ | refine blk_alloc ?_ _)); exact BK459.out⟩, ⟨by repeat (first | (with_reducible first | exact HB.out | apply below_alloc | apply pw_below_drewN | apply below_drew1 | refine below_set ?_ GE458.out | refine below_set ?_ GE459.out) | exact HB.out)⟩⟩
                case round =>
                 clear H'
                 try clear c1
                 try clear c2
                 try clear p2
                 try clear c3
                 try clear p4
                 try clear q4
                 try clear hx4
                 try clear c5
                 try clear p6
                 try clear c8
                 try clear c8b0
                 try clear c8b1
                 try clear c9
                 try clear c11
                 try clear c11b0
                 try clear c11b1
                 try clear c13
                 try clear c14
                 try clear c15
                 try clear c16
                 try clear c19
                 try clear c19b0
                 try clear c19b1
                 try clear c20
                 try clear c21
                 try clear c31
                 try clear c31b0
                 try clear c32
                 try clear c32b0
                 try clear c33
                 try clear c33b0
                 try clear c35
                 try clear c35b0
                 try clear c35b1
                 try clear hcz18_0
                 try clear hcz18_1
                 try clear hcz18_2
                 try clear hcz18_3
                 try clear hfz18_0
                 try clear hfz18_1
                 try clear hfz18_2
                 try clear hfz18_3
                 try clear hx472_0
                 try clear p2
                 try clear p472
                 try clear p6
                 try clear q472
                 obtain ⟨x13_4, x72_4, x460000_4, x460001_4, x460002_4, x460003_4, rfl, rfl, HA, HK4, HO_16, HO_55, HO_70, BK458, BK459, HB⟩ := hrel
                 cases gk with
                 | zero => exact absurd HA.out (by simp [bellmantop_TopDue.l1])
                 | succ k4 =>
                  have H := HA.out
                  clear HA
                  simp only [bellmantop_TopDue.l1] at H
                  by_cases c39 : x72_4 < (t476.length : Int)
                  ·rw [if_pos c39] at H
                   have c39b0 : decide (x72_4 < (t476.length : Int)) = true := decide_eq_true c39
                   clear c39
                   by_cases c40 : 0 ≤ x72_4
                   ·rw [if_pos c40] at H
                    have c40b0 : decide (0 ≤ x72_4) = true := decide_eq_true c40
                    clear c40
                    by_cases c41 : x72_4 < (t476.length : Int)
                    ·rw [if_pos c41] at H
                     have c41b0 : decide (x72_4 < (t476.length : Int)) = true := decide_eq_true c41
                     clear c41
                     by_cases c42 : ((rd_T29 t476 x72_4).f1) = a2
                     ·rw [if_pos c42] at H
                      have c42b0 : (((rd_T29 t476 x72_4).f1) == a2) = true := beq_iff_eq.mpr c42
                      have c42b1 : (((rd_T29 t476 x72_4).f1) != a2) = false := bne_eq_false_iff_eq.mpr c42
                      clear c42
                      obtain rfl := Option.some.inj H
                      have p480 : 0 ≤ (x72_4 : Int) := of_decide_eq_true (by first | (with_reducible assumption) | assumption)
                      have q480 : x72_4 < (t476.length : Int) := of_decide_eq_true (by first | (with_reducible assumption) | assumption)
                      obtain ⟨ad480, e480, hx480_0, hx480_1, hx480_2, hx480_3⟩ := at_T29 (Kd.V_reads' HO_70.out).2.2 x72_4 p480 q480
                      cases e480
                      replace p480 := eq_true p480
                      replace q480 := eq_true q480
                      go_wp2_with (first | ((with_reducible refine gate_dst (N := 20) rfl ?_); (try (refine gate_guard (by rfl) ?_; dsimp only)); refine box_event ?hg (N := 20) ?hd (cs := #[.int .i64 0, .int .i64 0, .int .u8 0, .int .i64 0]) (t := 29) ?hr ?_; (case hd => rfl); (case hg => rfl); (case hr => first | (go_simp; done) | (go_simp; rfl)); intro gb481 hg w43 hbox hb; have n0_ := Aside0.mk (Kd.V_below (Kd.V_elderB (by (with_reducible repeat (first | apply Kd.V_alloc | apply Kd.V_drewN | apply Kd.V_drew)); exact HO_16.out) gb481 (Nat.le_of_eq hg.symm)) hb); have n1_ := Aside0.mk (Kd.R_below (by (with_reducible repeat (first | apply Kd.R_alloc | apply Kd.R_drewN | apply Kd.R_drew)); exact HO_55.out) hb); have n2_ := Aside0.mk (Kd.V_below (Kd.V_elderB (by (with_reducible repeat (first | apply Kd.V_alloc | apply Kd.V_drewN | apply Kd.V_drew)); exact HO_70.out) gb481 (Nat.le_of_eq hg.symm)) hb); have n3_ := Aside0.mk (blk_below (g := gb458) (o := .cells #[.int .i64 t453, .int .i64 t454, .int .u8 t455, .int .i64 t456] 29 (0, 0)) (by (with_reducible repeat (first | refine blk_drewN ?_ _ | refine blk_drew ?_ | refine blk_alloc ?_ _)); exact BK458.out) hb); have n4_ := Aside0.mk (blk_below (g := gb459) (o := .cells #[.int .i64 x460000_4, .int .i64 x460001_4, .int .u8 x460002_4, .int .i64 x460003_4] 29 (0, 0)) (by (with_reducible repeat (first | refine blk_drewN ?_ _ | refine blk_drew ?_ | refine blk_alloc ?_ _)); exact BK459.out) hb); have n5_ := Aside0.mk (below_step (by repeat (first | (with_reducible first | exact HB.out | apply below_alloc | apply pw_below_drewN | apply below_drew1 | refine below_set ?_ GE458.out | refine below_set ?_ GE459.out) | exact HB.out)) hb); have n6_ := Aside0.mk (hbox); have n7_ := Aside0.mk ((by rw [hg]; exact (below_size (by repeat (first | (with_reducible first | exact HB.out | apply below_alloc | apply pw_below_drewN | apply below_drew1 | refine below_set ?_ GE458.out | refine below_set ?_ GE459.out) | exact HB.out))) : w.heap.size ≤ gb481)); have n8_ := Aside0.mk ((by rw [hg]; exact (below_size (by repeat (first | (with_reducible first | exact HB.out | apply below_alloc | apply pw_below_drewN | apply below_drew1 | refine below_set ?_ GE458.out | refine below_set ?_ GE459.out) | exact HB.out))) : w.heap.size ≤ gb481)); have n9_ := Aside0.mk ((by rw [hg]; exact Nat.ne_of_lt (blk_lt (g := gb458) (o := .cells #[.int .i64 t453, .int .i64 t454, .int .u8 t455, .int .i64 t456] 29 (0, 0)) (by (with_reducible repeat (first | refine blk_drewN ?_ _ | refine blk_drew ?_ | refine blk_alloc ?_ _)); exact BK458.out)) : gb458 ≠ gb481)); have n10_ := Aside0.mk ((by rw [hg]; exact Nat.ne_of_gt (blk_lt (g := gb458) (o := .cells #[.int .i64 t453, .int .i64 t454, .int .u8 t455, .int .i64 t456] 29 (0, 0)) (by (with_reducible repeat (first | refine blk_drewN ?_ _ | refine blk_drew ?_ | refine blk_alloc ?_ _)); exact BK458.out)) : gb481 ≠ gb458)); have n11_ := Aside0.mk ((by rw [hg]; exact Nat.ne_of_lt (blk_lt (g := gb459) (o := .cells #[.int .i64 x460000_4, .int .i64 x460001_4, .int .u8 x460002_4, .int .i64 x460003_4] 29 (0, 0)) (by (with_reducible repeat (first | refine blk_drewN ?_ _ | refine blk_drew ?_ | refine blk_alloc ?_ _)); exact BK459.out)) : gb459 ≠ gb481)); have n12_ := Aside0.mk ((by rw [hg]; exact Nat.ne_of_gt (blk_lt (g := gb459) (o := .cells #[.int .i64 x460000_4, .int .i64 x460001_4, .int .u8 x460002_4, .int .i64 x460003_4] 29 (0, 0)) (by (with_reducible repeat (first | refine blk_drewN ?_ _ | refine blk_drew ?_ | refine blk_alloc ?_ _)); exact BK459.out)) : gb481 ≠ gb459)); clear HO_16; clear HO_55; clear HO_70; clear BK458; clear BK459; clear HB; have HO_16 := n0_; have HO_55 := n1_; have HO_70 := n2_; have BK458 := n3_; have BK459 := n4_; have HB := n5_; have BK481 := n6_; have GW481 := n7_; have GE481 := n8_; have NB458_481 := n9_; have NB481_458 := n10_; have NB459_481 := n11_; have NB481_459 := n12_; clear n0_ n1_ n2_ n3_ n4_ n5_ n6_ n7_ n8_ n9_ n10_ n11_ n12_; clear hb hbox hg; have hnb44 := NB481_458.out; have hnc44 := NB458_481.out; have hnb45 := NB481_459.out; have hnc45 := NB459_481.out; have hcz46_0 : w43.cell? ⟨gb481, 0, none⟩ = some (.int .i64 0) := (blk_cell BK481.out 0).trans rfl; have hcz46_1 : w43.cell? ⟨gb481, 1, none⟩ = some (.int .i64 0) := (blk_cell BK481.out 1).trans rfl; have hcz46_2 : w43.cell? ⟨gb481, 2, none⟩ = some (.int .u8 0) := (blk_cell BK481.out 2).trans rfl; have hcz46_3 : w43.cell? ⟨gb481, 3, none⟩ = some (.int .i64 0) := (blk_cell BK481.out 3).trans rfl; have hfz46_0 := blk_frozen BK481.out 0; have hfz46_1 := blk_frozen BK481.out 1; have hfz46_2 := blk_frozen BK481.out 2; have hfz46_3 := blk_frozen BK481.out 3))
                      go_ret
                      exact ⟨by first | rfl | (simp [errW_none, errW_some] <;> rfl) | (simp [*, errW_none, errW_some] <;> rfl), by repeat (first | (with_reducible first | exact HB.out | apply below_alloc | apply pw_below_drewN | apply below_drew1 | refine below_set ?_ GE458.out | refine below_set ?_ GE459.out | refine below_set ?_ GE481.out) | exact HB.out)⟩
                     ·rw [if_neg c42] at H
                      have c42b0 : (((rd_T29 t476 x72_4).f1) == a2) = false := beq_eq_false_iff_ne.mpr c42
                      have c42b1 : (((rd_T29 t476 x72_4).f1) != a2) = true := bne_iff_ne.mpr c42
                      by_cases c47 : ((rd_T29 t476 x72_4).f0) > (rd y469 x57_3)
                      ·rw [if_pos c47] at H
                       have c47b0 : decide ((rd y469 x57_3) < ((rd_T29 t476 x72_4).f0)) = true := decide_eq_true c47
                       clear c47
                       obtain rfl := Option.some.inj H
                       have p480 : 0 ≤ (x72_4 : Int) := of_decide_eq_true (by first | (with_reducible assumption) | assumption)
                       have q480 : x72_4 < (t476.length : Int) := of_decide_eq_true (by first | (with_reducible assumption) | assumption)
                       obtain ⟨ad480, e480, hx480_0, hx480_1, hx480_2, hx480_3⟩ := at_T29 (Kd.V_reads' HO_70.out).2.2 x72_4 p480 q480
                       cases e480
                       replace p480 := eq_true p480
                       replace q480 := eq_true q480
                       go_wp2_with (first | ((with_reducible refine gate_dst (N := 20) rfl ?_); (try (refine gate_guard (by rfl) ?_; dsimp only)); refine box_event ?hg (N := 20) ?hd (cs := #[.int .i64 0, .int .i64 0, .int .u8 0, .int .i64 0]) (t := 29) ?hr ?_; (case hd => rfl); (case hg => rfl); (case hr => first | (go_simp; done) | (go_simp; rfl)); intro gb481 hg w48 hbox hb; have n0_ := Aside0.mk (Kd.V_below (Kd.V_elderB (by (with_reducible repeat (first | apply Kd.V_alloc | apply Kd.V_drewN | apply Kd.V_drew)); exact HO_16.out) gb481 (Nat.le_of_eq hg.symm)) hb); have n1_ := Aside0.mk (Kd.R_below (by (with_reducible repeat (first | apply Kd.R_alloc | apply Kd.R_drewN | apply Kd.R_drew)); exact HO_55.out) hb); have n2_ := Aside0.mk (Kd.V_below (Kd.V_elderB (by (with_reducible repeat (first | apply Kd.V_alloc | apply Kd.V_drewN | apply Kd.V_drew)); exact HO_70.out) gb481 (Nat.le_of_eq hg.symm)) hb); have n3_ := Aside0.mk (blk_below (g := gb458) (o := .cells #[.int .i64 t453, .int .i64 t454, .int .u8 t455, .int .i64 t456] 29 (0, 0)) (by (with_reducible repeat (first | refine blk_drewN ?_ _ | refine blk_drew ?_ | refine blk_alloc ?_ _)); exact BK458.out) hb); have n4_ := Aside0.mk (blk_below (g := gb459) (o := .cells #[.int .i64 x460000_4, .int .i64 x460001_4, .int .u8 x460002_4, .int .i64 x460003_4] 29 (0, 0)) (by (with_reducible repeat (first | refine blk_drewN ?_ _ | refine blk_drew ?_ | refine blk_alloc ?_ _)); exact BK459.out) hb); have n5_ := Aside0.mk (below_step (by repeat (first | (with_reducible first | exact HB.out | apply below_alloc | apply pw_below_drewN | apply below_drew1 | refine below_set ?_ GE458.out | refine below_set ?_ GE459.out) | exact HB.out)) hb); have n6_ := Aside0.mk (hbox); have n7_ := Aside0.mk ((by rw [hg]; exact (below_size (by repeat (first | (with_reducible first | exact HB.out | apply below_alloc | apply pw_below_drewN | apply below_drew1 | refine below_set ?_ GE458.out | refine below_set ?_ GE459.out) | exact HB.out))) : w.heap.size ≤ gb481)); have n8_ := Aside0.mk ((by rw [hg]; exact (below_size (by repeat (first | (with_reducible first | exact HB.out | apply below_alloc | apply pw_below_drewN | apply below_drew1 | refine below_set ?_ GE458.out | refine below_set ?_ GE459.out) | exact HB.out))) : w.heap.size ≤ gb481)); have n9_ := Aside0.mk ((by rw [hg]; exact Nat.ne_of_lt (blk_lt (g := gb458) (o := .cells #[.int .i64 t453, .int .i64 t454, .int .u8 t455, .int .i64 t456] 29 (0, 0)) (by (with_reducible repeat (first | refine blk_drewN ?_ _ | refine blk_drew ?_ | refine blk_alloc ?_ _)); exact BK458.out)) : gb458 ≠ gb481)); have n10_ := Aside0.mk ((by rw [hg]; exact Nat.ne_of_gt (blk_lt (g := gb458) (o := .cells #[.int .i64 t453, .int .i64 t454, .int .u8 t455, .int .i64 t456] 29 (0, 0)) (by (with_reducible repeat (first | refine blk_drewN ?_ _ | refine blk_drew ?_ | refine blk_alloc ?_ _)); exact BK458.out)) : gb481 ≠ gb458)); have n11_ := Aside0.mk ((by rw [hg]; exact Nat.ne_of_lt (blk_lt (g := gb459) (o := .cells #[.int .i64 x460000_4, .int .i64 x460001_4, .int .u8 x460002_4, .int .i64 x460003_4] 29 (0, 0)) (by (with_reducible repeat (first | refine blk_drewN ?_ _ | refine blk_drew ?_ | refine blk_alloc ?_ _)); exact BK459.out)) : gb459 ≠ gb481)); have n12_ := Aside0.mk ((by rw [hg]; exact Nat.ne_of_gt (blk_lt (g := gb459) (o := .cells #[.int .i64 x460000_4, .int .i64 x460001_4, .int .u8 x460002_4, .int .i64 x460003_4] 29 (0, 0)) (by (with_reducible repeat (first | refine blk_drewN ?_ _ | refine blk_drew ?_ | refine blk_alloc ?_ _)); exact BK459.out)) : gb481 ≠ gb459)); clear HO_16; clear HO_55; clear HO_70; clear BK458; clear BK459; clear HB; have HO_16 := n0_; have HO_55 := n1_; have HO_70 := n2_; have BK458 := n3_; have BK459 := n4_; have HB := n5_; have BK481 := n6_; have GW481 := n7_; have GE481 := n8_; have NB458_481 := n9_; have NB481_458 := n10_; have NB459_481 := n11_; have NB481_459 := n12_; clear n0_ n1_ n2_ n3_ n4_ n5_ n6_ n7_ n8_ n9_ n10_ n11_ n12_; clear hb hbox hg; have hnb49 := NB481_458.out; have hnc49 := NB458_481.out; have hnb50 := NB481_459.out; have hnc50 := NB459_481.out; have hcz51_0 : w48.cell? ⟨gb481, 0, none⟩ = some (.int .i64 0) := (blk_cell BK481.out 0).trans rfl; have hcz51_1 : w48.cell? ⟨gb481, 1, none⟩ = some (.int .i64 0) := (blk_cell BK481.out 1).trans rfl; have hcz51_2 : w48.cell? ⟨gb481, 2, none⟩ = some (.int .u8 0) := (blk_cell BK481.out 2).trans rfl; have hcz51_3 : w48.cell? ⟨gb481, 3, none⟩ = some (.int .i64 0) := (blk_cell BK481.out 3).trans rfl; have hfz51_0 := blk_frozen BK481.out 0; have hfz51_1 := blk_frozen BK481.out 1; have hfz51_2 := blk_frozen BK481.out 2; have hfz51_3 := blk_frozen BK481.out 3))
                       go_ret
                       exact ⟨by first | rfl | (simp [errW_none, errW_some] <;> rfl) | (simp [*, errW_none, errW_some] <;> rfl), by repeat (first | (with_reducible first | exact HB.out | apply below_alloc | apply pw_below_drewN | apply below_drew1 | refine below_set ?_ GE458.out | refine below_set ?_ GE459.out | refine below_set ?_ GE481.out) | exact HB.out)⟩
                      ·rw [if_neg c47] at H
                       have c47b0 : decide ((rd y469 x57_3) < ((rd_T29 t476 x72_4).f0)) = false := decide_eq_false c47
                       clear c47
                       by_cases c52 : x72_4 > 0
                       ·rw [if_pos c52] at H
                        have c52b0 : decide (0 < x72_4) = true := decide_eq_true c52
                        clear c52
                        by_cases c53 : ((rd_T29 t476 x72_4).f0) < x460000_4
                        ·rw [if_pos c53] at H
                         have c53b0 : decide (((rd_T29 t476 x72_4).f0) < x460000_4) = true := decide_eq_true c53
                         clear c53
                         obtain rfl := Option.some.inj H
                         have p480 : 0 ≤ (x72_4 : Int) := of_decide_eq_true (by first | (with_reducible assumption) | assumption)
                         have q480 : x72_4 < (t476.length : Int) := of_decide_eq_true (by first | (with_reducible assumption) | assumption)
                         obtain ⟨ad480, e480, hx480_0, hx480_1, hx480_2, hx480_3⟩ := at_T29 (Kd.V_reads' HO_70.out).2.2 x72_4 p480 q480
                         cases e480
                         replace p480 := eq_true p480
                         replace q480 := eq_true q480
                         go_wp2_with (first | ((with_reducible refine gate_dst (N := 20) rfl ?_); (try (refine gate_guard (by rfl) ?_; dsimp only)); refine box_event ?hg (N := 20) ?hd (cs := #[.int .i64 0, .int .i64 0, .int .u8 0, .int .i64 0]) (t := 29) ?hr ?_; (case hd => rfl); (case hg => rfl); (case hr => first | (go_simp; done) | (go_simp; rfl)); intro gb481 hg w54 hbox hb; have n0_ := Aside0.mk (Kd.V_below (Kd.V_elderB (by (with_reducible repeat (first | apply Kd.V_alloc | apply Kd.V_drewN | apply Kd.V_drew)); exact HO_16.out) gb481 (Nat.le_of_eq hg.symm)) hb); have n1_ := Aside0.mk (Kd.R_below (by (with_reducible repeat (first | apply Kd.R_alloc | apply Kd.R_drewN | apply Kd.R_drew)); exact HO_55.out) hb); have n2_ := Aside0.mk (Kd.V_below (Kd.V_elderB (by (with_reducible repeat (first | apply Kd.V_alloc | apply Kd.V_drewN | apply Kd.V_drew)); exact HO_70.out) gb481 (Nat.le_of_eq hg.symm)) hb); have n3_ := Aside0.mk (blk_below (g := gb458) (o := .cells #[.int .i64 t453, .int .i64 t454, .int .u8 t455, .int .i64 t456] 29 (0, 0)) (by (with_reducible repeat (first | refine blk_drewN ?_ _ | refine blk_drew ?_ | refine blk_alloc ?_ _)); exact BK458.out) hb); have n4_ := Aside0.mk (blk_below (g := gb459) (o := .cells #[.int .i64 x460000_4, .int .i64 x460001_4, .int .u8 x460002_4, .int .i64 x460003_4] 29 (0, 0)) (by (with_reducible repeat (first | refine blk_drewN ?_ _ | refine blk_drew ?_ | refine blk_alloc ?_ _)); exact BK459.out) hb); have n5_ := Aside0.mk (below_step (by repeat (first | (with_reducible first | exact HB.out | apply below_alloc | apply pw_below_drewN | apply below_drew1 | refine below_set ?_ GE458.out | refine below_set ?_ GE459.out) | exact HB.out)) hb); have n6_ := Aside0.mk (hbox); have n7_ := Aside0.mk ((by rw [hg]; exact (below_size (by repeat (first | (with_reducible first | exact HB.out | apply below_alloc | apply pw_below_drewN | apply below_drew1 | refine below_set ?_ GE458.out | refine below_set ?_ GE459.out) | exact HB.out))) : w.heap.size ≤ gb481)); have n8_ := Aside0.mk ((by rw [hg]; exact (below_size (by repeat (first | (with_reducible first | exact HB.out | apply below_alloc | apply pw_below_drewN | apply below_drew1 | refine below_set ?_ GE458.out | refine below_set ?_ GE459.out) | exact HB.out))) : w.heap.size ≤ gb481)); have n9_ := Aside0.mk ((by rw [hg]; exact Nat.ne_of_lt (blk_lt (g := gb458) (o := .cells #[.int .i64 t453, .int .i64 t454, .int .u8 t455, .int .i64 t456] 29 (0, 0)) (by (with_reducible repeat (first | refine blk_drewN ?_ _ | refine blk_drew ?_ | refine blk_alloc ?_ _)); exact BK458.out)) : gb458 ≠ gb481)); have n10_ := Aside0.mk ((by rw [hg]; exact Nat.ne_of_gt (blk_lt (g := gb458) (o := .cells #[.int .i64 t453, .int .i64 t454, .int .u8 t455, .int .i64 t456] 29 (0, 0)) (by (with_reducible repeat (first | refine blk_drewN ?_ _ | refine blk_drew ?_ | refine blk_alloc ?_ _)); exact BK458.out)) : gb481 ≠ gb458)); have n11_ := Aside0.mk ((by rw [hg]; exact Nat.ne_of_lt (blk_lt (g := gb459) (o := .cells #[.int .i64 x460000_4, .int .i64 x460001_4, .int .u8 x460002_4, .int .i64 x460003_4] 29 (0, 0)) (by (with_reducible repeat (first | refine blk_drewN ?_ _ | refine blk_drew ?_ | refine blk_alloc ?_ _)); exact BK459.out)) : gb459 ≠ gb481)); have n12_ := Aside0.mk ((by rw [hg]; exact Nat.ne_of_gt (blk_lt (g := gb459) (o := .cells #[.int .i64 x460000_4, .int .i64 x460001_4, .int .u8 x460002_4, .int .i64 x460003_4] 29 (0, 0)) (by (with_reducible repeat (first | refine blk_drewN ?_ _ | refine blk_drew ?_ | refine blk_alloc ?_ _)); exact BK459.out)) : gb481 ≠ gb459)); clear HO_16; clear HO_55; clear HO_70; clear BK458; clear BK459; clear HB; have HO_16 := n0_; have HO_55 := n1_; have HO_70 := n2_; have BK458 := n3_; have BK459 := n4_; have HB := n5_; have BK481 := n6_; have GW481 := n7_; have GE481 := n8_; have NB458_481 := n9_; have NB481_458 := n10_; have NB459_481 := n11_; have NB481_459 := n12_; clear n0_ n1_ n2_ n3_ n4_ n5_ n6_ n7_ n8_ n9_ n10_ n11_ n12_; clear hb hbox hg; have hnb55 := NB481_458.out; have hnc55 := NB458_481.out; have hnb56 := NB481_459.out; have hnc56 := NB459_481.out; have hcz57_0 : w54.cell? ⟨gb481, 0, none⟩ = some (.int .i64 0) := (blk_cell BK481.out 0).trans rfl; have hcz57_1 : w54.cell? ⟨gb481, 1, none⟩ = some (.int .i64 0) := (blk_cell BK481.out 1).trans rfl; have hcz57_2 : w54.cell? ⟨gb481, 2, none⟩ = some (.int .u8 0) := (blk_cell BK481.out 2).trans rfl; have hcz57_3 : w54.cell? ⟨gb481, 3, none⟩ = some (.int .i64 0) := (blk_cell BK481.out 3).trans rfl; have hfz57_0 := blk_frozen BK481.out 0; have hfz57_1 := blk_frozen BK481.out 1; have hfz57_2 := blk_frozen BK481.out 2; have hfz57_3 := blk_frozen BK481.out 3; have hnb58 := NB459_458.out; have hnc58 := NB458_459.out; have hcz59_0 : w54.cell? ⟨gb459, 0, none⟩ = some (.int .i64 x460000_4) := (blk_cell BK459.out 0).trans rfl; have hcz59_1 : w54.cell? ⟨gb459, 1, none⟩ = some (.int .i64 x460001_4) := (blk_cell BK459.out 1).trans rfl; have hcz59_2 : w54.cell? ⟨gb459, 2, none⟩ = some (.int .u8 x460002_4) := (blk_cell BK459.out 2).trans rfl; have hcz59_3 : w54.cell? ⟨gb459, 3, none⟩ = some (.int .i64 x460003_4) := (blk_cell BK459.out 3).trans rfl; have hfz59_0 := blk_frozen BK459.out 0; have hfz59_1 := blk_frozen BK459.out 1; have hfz59_2 := blk_frozen BK459.out 2; have hfz59_3 := blk_frozen BK459.out 3))
                         go_ret
                         exact ⟨by first | rfl | (simp [errW_none, errW_some] <;> rfl) | (simp [*, errW_none, errW_some] <;> rfl), by repeat (first | (with_reducible first | exact HB.out | apply below_alloc | apply pw_below_drewN | apply below_drew1 | refine below_set ?_ GE458.out | refine below_set ?_ GE459.out | refine below_set ?_ GE481.out) | exact HB.out)⟩
                        ·rw [if_neg c53] at H
                         have c53b0 : decide (((rd_T29 t476 x72_4).f0) < x460000_4) = false := decide_eq_false c53
                         clear c53
                         by_cases c60 : ((rd_T29 t476 x72_4).f0) = x460000_4
                         ·rw [if_pos c60] at H
                          have c60b0 : (((rd_T29 t476 x72_4).f0) == x460000_4) = true := beq_iff_eq.mpr c60
                          have c60b1 : (((rd_T29 t476 x72_4).f0) != x460000_4) = false := bne_eq_false_iff_eq.mpr c60
                          clear c60
                          by_cases c61 : ((rd_T29 t476 x72_4).f1) ≤ x460001_4
                          ·rw [if_pos c61] at H
                           have c61b0 : decide (((rd_T29 t476 x72_4).f1) ≤ x460001_4) = true := decide_eq_true c61
                           clear c61
                           obtain rfl := Option.some.inj H
                           have p480 : 0 ≤ (x72_4 : Int) := of_decide_eq_true (by first | (with_reducible assumption) | assumption)
                           have q480 : x72_4 < (t476.length : Int) := of_decide_eq_true (by first | (with_reducible assumption) | assumption)
                           obtain ⟨ad480, e480, hx480_0, hx480_1, hx480_2, hx480_3⟩ := at_T29 (Kd.V_reads' HO_70.out).2.2 x72_4 p480 q480
                           cases e480
                           replace p480 := eq_true p480
                           replace q480 := eq_true q480
                           go_wp2_with (first | ((with_reducible refine gate_dst (N := 20) rfl ?_); (try (refine gate_guard (by rfl) ?_; dsimp only)); refine box_event ?hg (N := 20) ?hd (cs := #[.int .i64 0, .int .i64 0, .int .u8 0, .int .i64 0]) (t := 29) ?hr ?_; (case hd => rfl); (case hg => rfl); (case hr => first | (go_simp; done) | (go_simp; rfl)); intro gb481 hg w62 hbox hb; have n0_ := Aside0.mk (Kd.V_below (Kd.V_elderB (by (with_reducible repeat (first | apply Kd.V_alloc | apply Kd.V_drewN | apply Kd.V_drew)); exact HO_16.out) gb481 (Nat.le_of_eq hg.symm)) hb); have n1_ := Aside0.mk (Kd.R_below (by (with_reducible repeat (first | apply Kd.R_alloc | apply Kd.R_drewN | apply Kd.R_drew)); exact HO_55.out) hb); have n2_ := Aside0.mk (Kd.V_below (Kd.V_elderB (by (with_reducible repeat (first | apply Kd.V_alloc | apply Kd.V_drewN | apply Kd.V_drew)); exact HO_70.out) gb481 (Nat.le_of_eq hg.symm)) hb); have n3_ := Aside0.mk (blk_below (g := gb458) (o := .cells #[.int .i64 t453, .int .i64 t454, .int .u8 t455, .int .i64 t456] 29 (0, 0)) (by (with_reducible repeat (first | refine blk_drewN ?_ _ | refine blk_drew ?_ | refine blk_alloc ?_ _)); exact BK458.out) hb); have n4_ := Aside0.mk (blk_below (g := gb459) (o := .cells #[.int .i64 x460000_4, .int .i64 x460001_4, .int .u8 x460002_4, .int .i64 x460003_4] 29 (0, 0)) (by (with_reducible repeat (first | refine blk_drewN ?_ _ | refine blk_drew ?_ | refine blk_alloc ?_ _)); exact BK459.out) hb); have n5_ := Aside0.mk (below_step (by repeat (first | (with_reducible first | exact HB.out | apply below_alloc | apply pw_below_drewN | apply below_drew1 | refine below_set ?_ GE458.out | refine below_set ?_ GE459.out) | exact HB.out)) hb); have n6_ := Aside0.mk (hbox); have n7_ := Aside0.mk ((by rw [hg]; exact (below_size (by repeat (first | (with_reducible first | exact HB.out | apply below_alloc | apply pw_below_drewN | apply below_drew1 | refine below_set ?_ GE458.out | refine below_set ?_ GE459.out) | exact HB.out))) : w.heap.size ≤ gb481)); have n8_ := Aside0.mk ((by rw [hg]; exact (below_size (by repeat (first | (with_reducible first | exact HB.out | apply below_alloc | apply pw_below_drewN | apply below_drew1 | refine below_set ?_ GE458.out | refine below_set ?_ GE459.out) | exact HB.out))) : w.heap.size ≤ gb481)); have n9_ := Aside0.mk ((by rw [hg]; exact Nat.ne_of_lt (blk_lt (g := gb458) (o := .cells #[.int .i64 t453, .int .i64 t454, .int .u8 t455, .int .i64 t456] 29 (0, 0)) (by (with_reducible repeat (first | refine blk_drewN ?_ _ | refine blk_drew ?_ | refine blk_alloc ?_ _)); exact BK458.out)) : gb458 ≠ gb481)); have n10_ := Aside0.mk ((by rw [hg]; exact Nat.ne_of_gt (blk_lt (g := gb458) (o := .cells #[.int .i64 t453, .int .i64 t454, .int .u8 t455, .int .i64 t456] 29 (0, 0)) (by (with_reducible repeat (first | refine blk_drewN ?_ _ | refine blk_drew ?_ | refine blk_alloc ?_ _)); exact BK458.out)) : gb481 ≠ gb458)); have n11_ := Aside0.mk ((by rw [hg]; exact Nat.ne_of_lt (blk_lt (g := gb459) (o := .cells #[.int .i64 x460000_4, .int .i64 x460001_4, .int .u8 x460002_4, .int .i64 x460003_4] 29 (0, 0)) (by (with_reducible repeat (first | refine blk_drewN ?_ _ | refine blk_drew ?_ | refine blk_alloc ?_ _)); exact BK459.out)) : gb459 ≠ gb481)); have n12_ := Aside0.mk ((by rw [hg]; exact Nat.ne_of_gt (blk_lt (g := gb459) (o := .cells #[.int .i64 x460000_4, .int .i64 x460001_4, .int .u8 x460002_4, .int .i64 x460003_4] 29 (0, 0)) (by (with_reducible repeat (first | refine blk_drewN ?_ _ | refine blk_drew ?_ | refine blk_alloc ?_ _)); exact BK459.out)) : gb481 ≠ gb459)); clear HO_16; clear HO_55; clear HO_70; clear BK458; clear BK459; clear HB; have HO_16 := n0_; have HO_55 := n1_; have HO_70 := n2_; have BK458 := n3_; have BK459 := n4_; have HB := n5_; have BK481 := n6_; have GW481 := n7_; have GE481 := n8_; have NB458_481 := n9_; have NB481_458 := n10_; have NB459_481 := n11_; have NB481_459 := n12_; clear n0_ n1_ n2_ n3_ n4_ n5_ n6_ n7_ n8_ n9_ n10_ n11_ n12_; clear hb hbox hg; have hnb63 := NB481_458.out; have hnc63 := NB458_481.out; have hnb64 := NB481_459.out; have hnc64 := NB459_481.out; have hcz65_0 : w62.cell? ⟨gb481, 0, none⟩ = some (.int .i64 0) := (blk_cell BK481.out 0).trans rfl; have hcz65_1 : w62.cell? ⟨gb481, 1, none⟩ = some (.int .i64 0) := (blk_cell BK481.out 1).trans rfl; have hcz65_2 : w62.cell? ⟨gb481, 2, none⟩ = some (.int .u8 0) := (blk_cell BK481.out 2).trans rfl; have hcz65_3 : w62.cell? ⟨gb481, 3, none⟩ = some (.int .i64 0) := (blk_cell BK481.out 3).trans rfl; have hfz65_0 := blk_frozen BK481.out 0; have hfz65_1 := blk_frozen BK481.out 1; have hfz65_2 := blk_frozen BK481.out 2; have hfz65_3 := blk_frozen BK481.out 3; have hnb66 := NB459_458.out; have hnc66 := NB458_459.out; have hcz67_0 : w62.cell? ⟨gb459, 0, none⟩ = some (.int .i64 x460000_4) := (blk_cell BK459.out 0).trans rfl; have hcz67_1 : w62.cell? ⟨gb459, 1, none⟩ = some (.int .i64 x460001_4) := (blk_cell BK459.out 1).trans rfl; have hcz67_2 : w62.cell? ⟨gb459, 2, none⟩ = some (.int .u8 x460002_4) := (blk_cell BK459.out 2).trans rfl; have hcz67_3 : w62.cell? ⟨gb459, 3, none⟩ = some (.int .i64 x460003_4) := (blk_cell BK459.out 3).trans rfl; have hfz67_0 := blk_frozen BK459.out 0; have hfz67_1 := blk_frozen BK459.out 1; have hfz67_2 := blk_frozen BK459.out 2; have hfz67_3 := blk_frozen BK459.out 3))
                           go_ret
                           exact ⟨by first | rfl | (simp [errW_none, errW_some] <;> rfl) | (simp [*, errW_none, errW_some] <;> rfl), by repeat (first | (with_reducible first | exact HB.out | apply below_alloc | apply pw_below_drewN | apply below_drew1 | refine below_set ?_ GE458.out | refine below_set ?_ GE459.out | refine below_set ?_ GE481.out) | exact HB.out)⟩
                          ·rw [if_neg c61] at H
                           have c61b0 : decide (((rd_T29 t476 x72_4).f1) ≤ x460001_4) = false := decide_eq_false c61
                           clear c61
                           have H' := Aside0.mk H
                           clear H
                           have p480 : 0 ≤ (x72_4 : Int) := of_decide_eq_true (by first | (with_reducible assumption) | assumption)
                           have q480 : x72_4 < (t476.length : Int) := of_decide_eq_true (by first | (with_reducible assumption) | assumption)
                           obtain ⟨ad480, e480, hx480_0, hx480_1, hx480_2, hx480_3⟩ := at_T29 (Kd.V_reads' HO_70.out).2.2 x72_4 p480 q480
                           cases e480
                           replace p480 := eq_true p480
                           replace q480 := eq_true q480
                           go_wp2_with (first | ((with_reducible refine gate_dst (N := 20) rfl ?_); (try (refine gate_guard (by rfl) ?_; dsimp only)); refine box_event ?hg (N := 20) ?hd (cs := #[.int .i64 0, .int .i64 0, .int .u8 0, .int .i64 0]) (t := 29) ?hr ?_; (case hd => rfl); (case hg => rfl); (case hr => first | (go_simp; done) | (go_simp; rfl)); intro gb481 hg w68 hbox hb; have n0_ := Aside0.mk (Kd.V_below (Kd.V_elderB (by (with_reducible repeat (first | apply Kd.V_alloc | apply Kd.V_drewN | apply Kd.V_drew)); exact HO_16.out) gb481 (Nat.le_of_eq hg.symm)) hb); have n1_ := Aside0.mk (Kd.R_below (by (with_reducible repeat (first | apply Kd.R_alloc | apply Kd.R_drewN | apply Kd.R_drew)); exact HO_55.out) hb); have n2_ := Aside0.mk (Kd.V_below (Kd.V_elderB (by (with_reducible repeat (first | apply Kd.V_alloc | apply Kd.V_drewN | apply Kd.V_drew)); exact HO_70.out) gb481 (Nat.le_of_eq hg.symm)) hb); have n3_ := Aside0.mk (blk_below (g := gb458) (o := .cells #[.int .i64 t453, .int .i64 t454, .int .u8 t455, .int .i64 t456] 29 (0, 0)) (by (with_reducible repeat (first | refine blk_drewN ?_ _ | refine blk_drew ?_ | refine blk_alloc ?_ _)); exact BK458.out) hb); have n4_ := Aside0.mk (blk_below (g := gb459) (o := .cells #[.int .i64 x460000_4, .int .i64 x460001_4, .int .u8 x460002_4, .int .i64 x460003_4] 29 (0, 0)) (by (with_reducible repeat (first | refine blk_drewN ?_ _ | refine blk_drew ?_ | refine blk_alloc ?_ _)); exact BK459.out) hb); have n5_ := Aside0.mk (below_step (by repeat (first | (with_reducible first | exact HB.out | apply below_alloc | apply pw_below_drewN | apply below_drew1 | refine below_set ?_ GE458.out | refine below_set ?_ GE459.out) | exact HB.out)) hb); have n6_ := Aside0.mk (hbox); have n7_ := Aside0.mk ((by rw [hg]; exact (below_size (by repeat (first | (with_reducible first | exact HB.out | apply below_alloc | apply pw_below_drewN | apply below_drew1 | refine below_set ?_ GE458.out | refine below_set ?_ GE459.out) | exact HB.out))) : w.heap.size ≤ gb481)); have n8_ := Aside0.mk ((by rw [hg]; exact (below_size (by repeat (first | (with_reducible first | exact HB.out | apply below_alloc | apply pw_below_drewN | apply below_drew1 | refine below_set ?_ GE458.out | refine below_set ?_ GE459.out) | exact HB.out))) : w.heap.size ≤ gb481)); have n9_ := Aside0.mk ((by rw [hg]; exact Nat.ne_of_lt (blk_lt (g := gb458) (o := .cells #[.int .i64 t453, .int .i64 t454, .int .u8 t455, .int .i64 t456] 29 (0, 0)) (by (with_reducible repeat (first | refine blk_drewN ?_ _ | refine blk_drew ?_ | refine blk_alloc ?_ _)); exact BK458.out)) : gb458 ≠ gb481)); have n10_ := Aside0.mk ((by rw [hg]; exact Nat.ne_of_gt (blk_lt (g := gb458) (o := .cells #[.int .i64 t453, .int .i64 t454, .int .u8 t455, .int .i64 t456] 29 (0, 0)) (by (with_reducible repeat (first | refine blk_drewN ?_ _ | refine blk_drew ?_ | refine blk_alloc ?_ _)); exact BK458.out)) : gb481 ≠ gb458)); have n11_ := Aside0.mk ((by rw [hg]; exact Nat.ne_of_lt (blk_lt (g := gb459) (o := .cells #[.int .i64 x460000_4, .int .i64 x460001_4, .int .u8 x460002_4, .int .i64 x460003_4] 29 (0, 0)) (by (with_reducible repeat (first | refine blk_drewN ?_ _ | refine blk_drew ?_ | refine blk_alloc ?_ _)); exact BK459.out)) : gb459 ≠ gb481)); have n12_ := Aside0.mk ((by rw [hg]; exact Nat.ne_of_gt (blk_lt (g := gb459) (o := .cells #[.int .i64 x460000_4, .int .i64 x460001_4, .int .u8 x460002_4, .int .i64 x460003_4] 29 (0, 0)) (by (with_reducible repeat (first | refine blk_drewN ?_ _ | refine blk_drew ?_ | refine blk_alloc ?_ _)); exact BK459.out)) : gb481 ≠ gb459)); clear HO_16; clear HO_55; clear HO_70; clear BK458; clear BK459; clear HB; have HO_16 := n0_; have HO_55 := n1_; have HO_70 := n2_; have BK458 := n3_; have BK459 := n4_; have HB := n5_; have BK481 := n6_; have GW481 := n7_; have GE481 := n8_; have NB458_481 := n9_; have NB481_458 := n10_; have NB459_481 := n11_; have NB481_459 := n12_; clear n0_ n1_ n2_ n3_ n4_ n5_ n6_ n7_ n8_ n9_ n10_ n11_ n12_; clear hb hbox hg; have hnb69 := NB481_458.out; have hnc69 := NB458_481.out; have hnb70 := NB481_459.out; have hnc70 := NB459_481.out; have hcz71_0 : w68.cell? ⟨gb481, 0, none⟩ = some (.int .i64 0) := (blk_cell BK481.out 0).trans rfl; have hcz71_1 : w68.cell? ⟨gb481, 1, none⟩ = some (.int .i64 0) := (blk_cell BK481.out 1).trans rfl; have hcz71_2 : w68.cell? ⟨gb481, 2, none⟩ = some (.int .u8 0) := (blk_cell BK481.out 2).trans rfl; have hcz71_3 : w68.cell? ⟨gb481, 3, none⟩ = some (.int .i64 0) := (blk_cell BK481.out 3).trans rfl; have hfz71_0 := blk_frozen BK481.out 0; have hfz71_1 := blk_frozen BK481.out 1; have hfz71_2 := blk_frozen BK481.out 2; have hfz71_3 := blk_frozen BK481.out 3; have hnb72 := NB459_458.out; have hnc72 := NB458_459.out; have hcz73_0 : w68.cell? ⟨gb459, 0, none⟩ = some (.int .i64 x460000_4) := (blk_cell BK459.out 0).trans rfl; have hcz73_1 : w68.cell? ⟨gb459, 1, none⟩ = some (.int .i64 x460001_4) := (blk_cell BK459.out 1).trans rfl; have hcz73_2 : w68.cell? ⟨gb459, 2, none⟩ = some (.int .u8 x460002_4) := (blk_cell BK459.out 2).trans rfl; have hcz73_3 : w68.cell? ⟨gb459, 3, none⟩ = some (.int .i64 x460003_4) := (blk_cell BK459.out 3).trans rfl; have hfz73_0 := blk_frozen BK459.out 0; have hfz73_1 := blk_frozen BK459.out 1; have hfz73_2 := blk_frozen BK459.out 2; have hfz73_3 := blk_frozen BK459.out 3))
                           go_roundg k4
                           case measure => have := HJ5.out; have := HJ12.out; have := HK3.out; have := HK4.out; omega
                           case rel => exact ⟨(wrap64 (x13_4 + 1)), (wrap64 (x72_4 + 1)), ((rd_T29 t476 x72_4).f0), ((rd_T29 t476 x72_4).f1), ((rd_T29 t476 x72_4).f2), ((rd_T29 t476 x72_4).f3), (by first | rfl | (simp; done) | (simp [*]; done)), (by first | rfl | (simp; done) | (simp [*]; done)), H', ⟨by have := HJ5.out; have := HJ12.out; have := HK3.out; have := HK4.out; omega⟩, ⟨by (with_reducible repeat (first | apply Kd.V_alloc | apply Kd.V_drewN | apply Kd.V_drew)); exact Kd.V_mono (Kd.V_far (p := ⟨gb459, 3, none⟩) (Kd.V_far (p := ⟨gb459, 2, none⟩) (Kd.V_far (p := ⟨gb459, 1, none⟩) (Kd.V_far (p := ⟨gb459, 0, none⟩) (Kd.V_far (p := ⟨gb481, 3, none⟩) (Kd.V_far (p := ⟨gb481, 2, none⟩) (Kd.V_far (p := ⟨gb481, 1, none⟩) (Kd.V_far (p := ⟨gb481, 0, none⟩) (Kd.V_mono (Kd.V_mono HO_16.out (fun k_ hk => (⟨hk, hk.2⟩ : _ ∧ k_ ≠ gb481))) (fun k_ hk => (⟨hk, hk.1.1.2.2⟩ : _ ∧ k_ ≠ gb459))) (fun _ hk => hk.1.2) (.int .i64 ((rd_T29 t476 x72_4).f0))) (fun _ hk => hk.1.2) (.int .i64 ((rd_T29 t476 x72_4).f1))) (fun _ hk => hk.1.2) (.int .u8 ((rd_T29 t476 x72_4).f2))) (fun _ hk => hk.1.2) (.int .i64 ((rd_T29 t476 x72_4).f3))) (fun _ hk => hk.2) (.int .i64 ((rd_T29 t476 x72_4).f0))) (fun _ hk => hk.2) (.int .i64 ((rd_T29 t476 x72_4).f1))) (fun _ hk => hk.2) (.int .u8 ((rd_T29 t476 x72_4).f2))) (fun _ hk => hk.2) (.int .i64 ((rd_T29 t476 x72_4).f3))) (fun _ hk => ⟨hk.1.1.1.1, ⟨hk.1.1.1.2.1, hk.1.1.1.2.2⟩⟩)⟩, ⟨by (with_reducible repeat (first | apply Kd.R_alloc | apply Kd.R_drewN | apply Kd.R_drew)); exact Kd.R_mono (Kd.R_far (p := ⟨gb459, 3, none⟩) (Kd.R_far (p := ⟨gb459, 2, none⟩) (Kd.R_far (p := ⟨gb459, 1, none⟩) (Kd.R_far (p := ⟨gb459, 0, none⟩) (Kd.R_far (p := ⟨gb481, 3, none⟩) (Kd.R_far (p := ⟨gb481, 2, none⟩) (Kd.R_far (p := ⟨gb481, 1, none⟩) (Kd.R_far (p := ⟨gb481, 0, none⟩) (Kd.R_types (Kd.R_types HO_55.out BK481.out (by decide)) BK459.out (by decide)) (fun _ hk => hk.1.2) (.int .i64 ((rd_T29 t476 x72_4).f0))) (fun _ hk => hk.1.2) (.int .i64 ((rd_T29 t476 x72_4).f1))) (fun _ hk => hk.1.2) (.int .u8 ((rd_T29 t476 x72_4).f2))) (fun _ hk => hk.1.2) (.int .i64 ((rd_T29 t476 x72_4).f3))) (fun _ hk => hk.2) (.int .i64 ((rd_T29 t476 x72_4).f0))) (fun _ hk => hk.2) (.int .i64 ((rd_T29 t476 x72_4).f1))) (fun _ hk => hk.2) (.int .u8 ((rd_T29 t476 x72_4).f2))) (fun _ hk => hk.2) (.int .i64 ((rd_T29 t476 x72_4).f3))) (fun _ hk => trivial)⟩, ⟨by (with_reducible repeat (first | apply Kd.V_alloc | apply Kd.V_drewN | apply Kd.V_drew)); exact Kd.V_mono (Kd.V_far (p := ⟨gb459, 3, none⟩) (Kd.V_far (p := ⟨gb459, 2, none⟩) (Kd.V_far (p := ⟨gb459, 1, none⟩) (Kd.V_far (p := ⟨gb459, 0, none⟩) (Kd.V_far (p := ⟨gb481, 3, none⟩) (Kd.V_far (p := ⟨gb481, 2, none⟩) (Kd.V_far (p := ⟨gb481, 1, none⟩) (Kd.V_far (p := ⟨gb481, 0, none⟩) (Kd.V_mono (Kd.V_mono HO_70.out (fun k_ hk => (⟨hk, hk.2⟩ : _ ∧ k_ ≠ gb481))) (fun k_ hk => (⟨hk, hk.1.1.2.2⟩ : _ ∧ k_ ≠ gb459))) (fun _ hk => hk.1.2) (.int .i64 ((rd_T29 t476 x72_4).f0))) (fun _ hk => hk.1.2) (.int .i64 ((rd_T29 t476 x72_4).f1))) (fun _ hk => hk.1.2) (.int .u8 ((rd_T29 t476 x72_4).f2))) (fun _ hk => hk.1.2) (.int .i64 ((rd_T29 t476 x72_4).f3))) (fun _ hk => hk.2) (.int .i64 ((rd_T29 t476 x72_4).f0))) (fun _ hk => hk.2) (.int .i64 ((rd_T29 t476 x72_4).f1))) (fun _ hk => hk.2) (.int .u8 ((rd_T29 t476 x72_4).f2))) (fun _ hk => hk.2) (.int .i64 ((rd_T29 t476 x72_4).f3))) (fun _ hk => ⟨hk.1.1.1.1, ⟨hk.1.1.1.2.1, hk.1.1.1.2.2⟩⟩)⟩, ⟨by (with_reducible repeat (first | refine blk_drewN ?_ _ | refine blk_drew ?_ | refine blk_alloc ?_ _)); refine blk_far ?_ NB458_459.out _; (with_reducible repeat (first | refine blk_drewN ?_ _ | refine blk_drew ?_ | refine blk_alloc ?_ _)); refine blk_far ?_ NB458_459.out _; (with_reducible repeat (first | refine blk_drewN ?_ _ | refine blk_drew ?_ | refine blk_alloc ?_ _)); refine blk_far ?_ NB458_459.out _; (with_reducible repeat (first | refine blk_drewN ?_ _ | refine blk_drew ?_ | refine blk_alloc ?_ _)); refine blk_far ?_ NB458_459.out _; (with_reducible repeat (first | refine blk_drewN ?_ _ | refine blk_drew ?_ | refine blk_alloc ?_ _)); refine blk_far ?_ NB458_481.out _; (with_reducible repeat (first | refine blk_drewN ?_ _ | refine blk_drew ?_ | refine blk_alloc ?_ _)); refine blk_far ?_ NB458_481.out _; (with_reducible repeat (first | refine blk_drewN ?_ _ | refine blk_drew ?_ | refine blk_alloc ?_ _)); refine blk_far ?_ NB458_481.out _; (with_reducible repeat (first | refine blk_drewN ?_ _ | refine blk_drew ?_ | refine blk_alloc ?_ _)); refine blk_far ?_ NB458_481.out _; (with_reducible repeat (first | refine blk_drewN ?_ _ | refine blk_drew ?_ | refine blk_alloc ?_ _)); exact BK458.out⟩, ⟨by (with_reducible repeat (first | refine blk_drewN ?_ _ | refine blk_drew ?_ | refine blk_alloc ?_ _)); refine blk_put (cs := #[.int .i64 ((rd_T29 t476 x72_4).f0), .int .i64 ((rd_T29 t476 x72_4).f1), .int .u8 ((rd_T29 t476 x72_4).f2), .int .i64 x460003_4]) ?_ 3 _ rfl; (with_reducible repeat (first | refine blk_drewN ?_ _ | refine blk_drew ?_ | refine blk_alloc ?_ _)); refine blk_put (cs := #[.int .i64 ((rd_T29 t476 x72_4).f0), .int .i64 ((rd_T29 t476 x72_4).f1), .int .u8 x460002_4, .int .i64 x460003_4]) ?_ 2 _ rfl; (with_reducible repeat (first | refine blk_drewN ?_ _ | refine blk_drew ?_ | refine blk_alloc ?_ _)); refine blk_put (cs := #[.int .i64 ((rd_T29 t476 x72_4).f0), .int .i64 x460001_4, .int .u8 x460002_4, .int .i64 x460003_4]) ?_ 1 _ rfl; (with_reducible repeat (first | refine blk_drewN ?_ _ | refine blk_drew ?_ | refine blk_alloc ?_ _)); refine blk_put (cs := #[.int .i64 x460000_4, .int .i64 x460001_4, .int .u8 x460002_4, .int .i64 x460003_4]) ?_ 0 _ rfl; (with_reducible repeat (first | refine blk_drewN ?_ _ | refine blk_drew ?_ | refine blk_alloc ?_ _)); refine blk_far ?_ NB459_481.out _; (with_reducible repeat (first | refine blk_drewN ?_ _ | refine blk_drew ?_ | refine blk_alloc ?_ _)); refine blk_far ?_ NB459_481.out _; (with_reducible repeat (first | refine blk_drewN ?_ _ | refine blk_drew ?_ | refine blk_alloc ?_ _)); refine blk_far ?_ NB459_481.out _; (with_reducible repeat (first | refine blk_drewN ?_ _ | refine blk_drew ?_ | refine blk_alloc ?_ _)); refine blk_far ?_ NB459_481.out _; (with_reducible repeat (first | refine blk_drewN ?_ _ | refine blk_drew ?_ | refine blk_alloc ?_ _)); exact BK459.out⟩, ⟨by repeat (first | (with_reducible first | exact HB.out | apply below_alloc | apply pw_below_drewN | apply below_drew1 | refine below_set ?_ GE458.out | refine below_set ?_ GE459.out | refine below_set ?_ GE481.out) | exact HB.out)⟩⟩
                         ·rw [if_neg c60] at H
                          have c60b0 : (((rd_T29 t476 x72_4).f0) == x460000_4) = false := beq_eq_false_iff_ne.mpr c60
                          have c60b1 : (((rd_T29 t476 x72_4).f0) != x460000_4) = true := bne_iff_ne.mpr c60
                          have H' := Aside0.mk H
                          clear H
                          have p480 : 0 ≤ (x72_4 : Int) := of_decide_eq_true (by first | (with_reducible assumption) | assumption)
                          have q480 : x72_4 < (t476.length : Int) := of_decide_eq_true (by first | (with_reducible assumption) | assumption)
                          obtain ⟨ad480, e480, hx480_0, hx480_1, hx480_2, hx480_3⟩ := at_T29 (Kd.V_reads' HO_70.out).2.2 x72_4 p480 q480
                          cases e480
                          replace p480 := eq_true p480
                          replace q480 := eq_true q480
                          go_wp2_with (first | ((with_reducible refine gate_dst (N := 20) rfl ?_); (try (refine gate_guard (by rfl) ?_; dsimp only)); refine box_event ?hg (N := 20) ?hd (cs := #[.int .i64 0, .int .i64 0, .int .u8 0, .int .i64 0]) (t := 29) ?hr ?_; (case hd => rfl); (case hg => rfl); (case hr => first | (go_simp; done) | (go_simp; rfl)); intro gb481 hg w74 hbox hb; have n0_ := Aside0.mk (Kd.V_below (Kd.V_elderB (by (with_reducible repeat (first | apply Kd.V_alloc | apply Kd.V_drewN | apply Kd.V_drew)); exact HO_16.out) gb481 (Nat.le_of_eq hg.symm)) hb); have n1_ := Aside0.mk (Kd.R_below (by (with_reducible repeat (first | apply Kd.R_alloc | apply Kd.R_drewN | apply Kd.R_drew)); exact HO_55.out) hb); have n2_ := Aside0.mk (Kd.V_below (Kd.V_elderB (by (with_reducible repeat (first | apply Kd.V_alloc | apply Kd.V_drewN | apply Kd.V_drew)); exact HO_70.out) gb481 (Nat.le_of_eq hg.symm)) hb); have n3_ := Aside0.mk (blk_below (g := gb458) (o := .cells #[.int .i64 t453, .int .i64 t454, .int .u8 t455, .int .i64 t456] 29 (0, 0)) (by (with_reducible repeat (first | refine blk_drewN ?_ _ | refine blk_drew ?_ | refine blk_alloc ?_ _)); exact BK458.out) hb); have n4_ := Aside0.mk (blk_below (g := gb459) (o := .cells #[.int .i64 x460000_4, .int .i64 x460001_4, .int .u8 x460002_4, .int .i64 x460003_4] 29 (0, 0)) (by (with_reducible repeat (first | refine blk_drewN ?_ _ | refine blk_drew ?_ | refine blk_alloc ?_ _)); exact BK459.out) hb); have n5_ := Aside0.mk (below_step (by repeat (first | (with_reducible first | exact HB.out | apply below_alloc | apply pw_below_drewN | apply below_drew1 | refine below_set ?_ GE458.out | refine below_set ?_ GE459.out) | exact HB.out)) hb); have n6_ := Aside0.mk (hbox); have n7_ := Aside0.mk ((by rw [hg]; exact (below_size (by repeat (first | (with_reducible first | exact HB.out | apply below_alloc | apply pw_below_drewN | apply below_drew1 | refine below_set ?_ GE458.out | refine below_set ?_ GE459.out) | exact HB.out))) : w.heap.size ≤ gb481)); have n8_ := Aside0.mk ((by rw [hg]; exact (below_size (by repeat (first | (with_reducible first | exact HB.out | apply below_alloc | apply pw_below_drewN | apply below_drew1 | refine below_set ?_ GE458.out | refine below_set ?_ GE459.out) | exact HB.out))) : w.heap.size ≤ gb481)); have n9_ := Aside0.mk ((by rw [hg]; exact Nat.ne_of_lt (blk_lt (g := gb458) (o := .cells #[.int .i64 t453, .int .i64 t454, .int .u8 t455, .int .i64 t456] 29 (0, 0)) (by (with_reducible repeat (first | refine blk_drewN ?_ _ | refine blk_drew ?_ | refine blk_alloc ?_ _)); exact BK458.out)) : gb458 ≠ gb481)); have n10_ := Aside0.mk ((by rw [hg]; exact Nat.ne_of_gt (blk_lt (g := gb458) (o := .cells #[.int .i64 t453, .int .i64 t454, .int .u8 t455, .int .i64 t456] 29 (0, 0)) (by (with_reducible repeat (first | refine blk_drewN ?_ _ | refine blk_drew ?_ | refine blk_alloc ?_ _)); exact BK458.out)) : gb481 ≠ gb458)); have n11_ := Aside0.mk ((by rw [hg]; exact Nat.ne_of_lt (blk_lt (g := gb459) (o := .cells #[.int .i64 x460000_4, .int .i64 x460001_4, .int .u8 x460002_4, .int .i64 x460003_4] 29 (0, 0)) (by (with_reducible repeat (first | refine blk_drewN ?_ _ | refine blk_drew ?_ | refine blk_alloc ?_ _)); exact BK459.out)) : gb459 ≠ gb481)); have n12_ := Aside0.mk ((by rw [hg]; exact Nat.ne_of_gt (blk_lt (g := gb459) (o := .cells #[.int .i64 x460000_4, .int .i64 x460001_4, .int .u8 x460002_4, .int .i64 x460003_4] 29 (0, 0)) (by (with_reducible repeat (first | refine blk_drewN ?_ _ | refine blk_drew ?_ | refine blk_alloc ?_ _)); exact BK459.out)) : gb481 ≠ gb459)); clear HO_16; clear HO_55; clear HO_70; clear BK458; clear BK459; clear HB; have HO_16 := n0_; have HO_55 := n1_; have HO_70 := n2_; have BK458 := n3_; have BK459 := n4_; have HB := n5_; have BK481 := n6_; have GW481 := n7_; have GE481 := n8_; have NB458_481 := n9_; have NB481_458 := n10_; have NB459_481 := n11_; have NB481_459 := n12_; clear n0_ n1_ n2_ n3_ n4_ n5_ n6_ n7_ n8_ n9_ n10_ n11_ n12_; clear hb hbox hg; have hnb75 := NB481_458.out; have hnc75 := NB458_481.out; have hnb76 := NB481_459.out; have hnc76 := NB459_481.out; have hcz77_0 : w74.cell? ⟨gb481, 0, none⟩ = some (.int .i64 0) := (blk_cell BK481.out 0).trans rfl; have hcz77_1 : w74.cell? ⟨gb481, 1, none⟩ = some (.int .i64 0) := (blk_cell BK481.out 1).trans rfl; have hcz77_2 : w74.cell? ⟨gb481, 2, none⟩ = some (.int .u8 0) := (blk_cell BK481.out 2).trans rfl; have hcz77_3 : w74.cell? ⟨gb481, 3, none⟩ = some (.int .i64 0) := (blk_cell BK481.out 3).trans rfl; have hfz77_0 := blk_frozen BK481.out 0; have hfz77_1 := blk_frozen BK481.out 1; have hfz77_2 := blk_frozen BK481.out 2; have hfz77_3 := blk_frozen BK481.out 3; have hnb78 := NB459_458.out; have hnc78 := NB458_459.out; have hcz79_0 : w74.cell? ⟨gb459, 0, none⟩ = some (.int .i64 x460000_4) := (blk_cell BK459.out 0).trans rfl; have hcz79_1 : w74.cell? ⟨gb459, 1, none⟩ = some (.int .i64 x460001_4) := (blk_cell BK459.out 1).trans rfl; have hcz79_2 : w74.cell? ⟨gb459, 2, none⟩ = some (.int .u8 x460002_4) := (blk_cell BK459.out 2).trans rfl; have hcz79_3 : w74.cell? ⟨gb459, 3, none⟩ = some (.int .i64 x460003_4) := (blk_cell BK459.out 3).trans rfl; have hfz79_0 := blk_frozen BK459.out 0; have hfz79_1 := blk_frozen BK459.out 1; have hfz79_2 := blk_frozen BK459.out 2; have hfz79_3 := blk_frozen BK459.out 3))
                          go_roundg k4
                          case measure => have := HJ5.out; have := HJ12.out; have := HK3.out; have := HK4.out; omega
                          case rel => exact ⟨(wrap64 (x13_4 + 1)), (wrap64 (x72_4 + 1)), ((rd_T29 t476 x72_4).f0), ((rd_T29 t476 x72_4).f1), ((rd_T29 t476 x72_4).f2), ((rd_T29 t476 x72_4).f3), (by first | rfl | (simp; done) | (simp [*]; done)), (by first | rfl | (simp; done) | (simp [*]; done)), H', ⟨by have := HJ5.out; have := HJ12.out; have := HK3.out; have := HK4.out; omega⟩, ⟨by (with_reducible repeat (first | apply Kd.V_alloc | apply Kd.V_drewN | apply Kd.V_drew)); exact Kd.V_mono (Kd.V_far (p := ⟨gb459, 3, none⟩) (Kd.V_far (p := ⟨gb459, 2, none⟩) (Kd.V_far (p := ⟨gb459, 1, none⟩) (Kd.V_far (p := ⟨gb459, 0, none⟩) (Kd.V_far (p := ⟨gb481, 3, none⟩) (Kd.V_far (p := ⟨gb481, 2, none⟩) (Kd.V_far (p := ⟨gb481, 1, none⟩) (Kd.V_far (p := ⟨gb481, 0, none⟩) (Kd.V_mono (Kd.V_mono HO_16.out (fun k_ hk => (⟨hk, hk.2⟩ : _ ∧ k_ ≠ gb481))) (fun k_ hk => (⟨hk, hk.1.1.2.2⟩ : _ ∧ k_ ≠ gb459))) (fun _ hk => hk.1.2) (.int .i64 ((rd_T29 t476 x72_4).f0))) (fun _ hk => hk.1.2) (.int .i64 ((rd_T29 t476 x72_4).f1))) (fun _ hk => hk.1.2) (.int .u8 ((rd_T29 t476 x72_4).f2))) (fun _ hk => hk.1.2) (.int .i64 ((rd_T29 t476 x72_4).f3))) (fun _ hk => hk.2) (.int .i64 ((rd_T29 t476 x72_4).f0))) (fun _ hk => hk.2) (.int .i64 ((rd_T29 t476 x72_4).f1))) (fun _ hk => hk.2) (.int .u8 ((rd_T29 t476 x72_4).f2))) (fun _ hk => hk.2) (.int .i64 ((rd_T29 t476 x72_4).f3))) (fun _ hk => ⟨hk.1.1.1.1, ⟨hk.1.1.1.2.1, hk.1.1.1.2.2⟩⟩)⟩, ⟨by (with_reducible repeat (first | apply Kd.R_alloc | apply Kd.R_drewN | apply Kd.R_drew)); exact Kd.R_mono (Kd.R_far (p := ⟨gb459, 3, none⟩) (Kd.R_far (p := ⟨gb459, 2, none⟩) (Kd.R_far (p := ⟨gb459, 1, none⟩) (Kd.R_far (p := ⟨gb459, 0, none⟩) (Kd.R_far (p := ⟨gb481, 3, none⟩) (Kd.R_far (p := ⟨gb481, 2, none⟩) (Kd.R_far (p := ⟨gb481, 1, none⟩) (Kd.R_far (p := ⟨gb481, 0, none⟩) (Kd.R_types (Kd.R_types HO_55.out BK481.out (by decide)) BK459.out (by decide)) (fun _ hk => hk.1.2) (.int .i64 ((rd_T29 t476 x72_4).f0))) (fun _ hk => hk.1.2) (.int .i64 ((rd_T29 t476 x72_4).f1))) (fun _ hk => hk.1.2) (.int .u8 ((rd_T29 t476 x72_4).f2))) (fun _ hk => hk.1.2) (.int .i64 ((rd_T29 t476 x72_4).f3))) (fun _ hk => hk.2) (.int .i64 ((rd_T29 t476 x72_4).f0))) (fun _ hk => hk.2) (.int .i64 ((rd_T29 t476 x72_4).f1))) (fun _ hk => hk.2) (.int .u8 ((rd_T29 t476 x72_4).f2))) (fun _ hk => hk.2) (.int .i64 ((rd_T29 t476 x72_4).f3))) (fun _ hk => trivial)⟩, ⟨by (with_reducible repeat (first | apply Kd.V_alloc | apply Kd.V_drewN | apply Kd.V_drew)); exact Kd.V_mono (Kd.V_far (p := ⟨gb459, 3, none⟩) (Kd.V_far (p := ⟨gb459, 2, none⟩) (Kd.V_far (p := ⟨gb459, 1, none⟩) (Kd.V_far (p := ⟨gb459, 0, none⟩) (Kd.V_far (p := ⟨gb481, 3, none⟩) (Kd.V_far (p := ⟨gb481, 2, none⟩) (Kd.V_far (p := ⟨gb481, 1, none⟩) (Kd.V_far (p := ⟨gb481, 0, none⟩) (Kd.V_mono (Kd.V_mono HO_70.out (fun k_ hk => (⟨hk, hk.2⟩ : _ ∧ k_ ≠ gb481))) (fun k_ hk => (⟨hk, hk.1.1.2.2⟩ : _ ∧ k_ ≠ gb459))) (fun _ hk => hk.1.2) (.int .i64 ((rd_T29 t476 x72_4).f0))) (fun _ hk => hk.1.2) (.int .i64 ((rd_T29 t476 x72_4).f1))) (fun _ hk => hk.1.2) (.int .u8 ((rd_T29 t476 x72_4).f2))) (fun _ hk => hk.1.2) (.int .i64 ((rd_T29 t476 x72_4).f3))) (fun _ hk => hk.2) (.int .i64 ((rd_T29 t476 x72_4).f0))) (fun _ hk => hk.2) (.int .i64 ((rd_T29 t476 x72_4).f1))) (fun _ hk => hk.2) (.int .u8 ((rd_T29 t476 x72_4).f2))) (fun _ hk => hk.2) (.int .i64 ((rd_T29 t476 x72_4).f3))) (fun _ hk => ⟨hk.1.1.1.1, ⟨hk.1.1.1.2.1, hk.1.1.1.2.2⟩⟩)⟩, ⟨by (with_reducible repeat (first | refine blk_drewN ?_ _ | refine blk_drew ?_ | refine blk_alloc ?_ _)); refine blk_far ?_ NB458_459.out _; (with_reducible repeat (first | refine blk_drewN ?_ _ | refine blk_drew ?_ | refine blk_alloc ?_ _)); refine blk_far ?_ NB458_459.out _; (with_reducible repeat (first | refine blk_drewN ?_ _ | refine blk_drew ?_ | refine blk_alloc ?_ _)); refine blk_far ?_ NB458_459.out _; (with_reducible repeat (first | refine blk_drewN ?_ _ | refine blk_drew ?_ | refine blk_alloc ?_ _)); refine blk_far ?_ NB458_459.out _; (with_reducible repeat (first | refine blk_drewN ?_ _ | refine blk_drew ?_ | refine blk_alloc ?_ _)); refine blk_far ?_ NB458_481.out _; (with_reducible repeat (first | refine blk_drewN ?_ _ | refine blk_drew ?_ | refine blk_alloc ?_ _)); refine blk_far ?_ NB458_481.out _; (with_reducible repeat (first | refine blk_drewN ?_ _ | refine blk_drew ?_ | refine blk_alloc ?_ _)); refine blk_far ?_ NB458_481.out _; (with_reducible repeat (first | refine blk_drewN ?_ _ | refine blk_drew ?_ | refine blk_alloc ?_ _)); refine blk_far ?_ NB458_481.out _; (with_reducible repeat (first | refine blk_drewN ?_ _ | refine blk_drew ?_ | refine blk_alloc ?_ _)); exact BK458.out⟩, ⟨by (with_reducible repeat (first | refine blk_drewN ?_ _ | refine blk_drew ?_ | refine blk_alloc ?_ _)); refine blk_put (cs := #[.int .i64 ((rd_T29 t476 x72_4).f0), .int .i64 ((rd_T29 t476 x72_4).f1), .int .u8 ((rd_T29 t476 x72_4).f2), .int .i64 x460003_4]) ?_ 3 _ rfl; (with_reducible repeat (first | refine blk_drewN ?_ _ | refine blk_drew ?_ | refine blk_alloc ?_ _)); refine blk_put (cs := #[.int .i64 ((rd_T29 t476 x72_4).f0), .int .i64 ((rd_T29 t476 x72_4).f1), .int .u8 x460002_4, .int .i64 x460003_4]) ?_ 2 _ rfl; (with_reducible repeat (first | refine blk_drewN ?_ _ | refine blk_drew ?_ | refine blk_alloc ?_ _)); refine blk_put (cs := #[.int .i64 ((rd_T29 t476 x72_4).f0), .int .i64 x460001_4, .int .u8 x460002_4, .int .i64 x460003_4]) ?_ 1 _ rfl; (with_reducible repeat (first | refine blk_drewN ?_ _ | refine blk_drew ?_ | refine blk_alloc ?_ _)); refine blk_put (cs := #[.int .i64 x460000_4, .int .i64 x460001_4, .int .u8 x460002_4, .int .i64 x460003_4]) ?_ 0 _ rfl; (with_reducible repeat (first | refine blk_drewN ?_ _ | refine blk_drew ?_ | refine blk_alloc ?_ _)); refine blk_far ?_ NB459_481.out _; (with_reducible repeat (first | refine blk_drewN ?_ _ | refine blk_drew ?_ | refine blk_alloc ?_ _)); refine blk_far ?_ NB459_481.out _; (with_reducible repeat (first | refine blk_drewN ?_ _ | refine blk_drew ?_ | refine blk_alloc ?_ _)); refine blk_far ?_ NB459_481.out _; (with_reducible repeat (first | refine blk_drewN ?_ _ | refine blk_drew ?_ | refine blk_alloc ?_ _)); refine blk_far ?_ NB459_481.out _; (with_reducible repeat (first | refine blk_drewN ?_ _ | refine blk_drew ?_ | refine blk_alloc ?_ _)); exact BK459.out⟩, ⟨by repeat (first | (with_reducible first | exact HB.out | apply below_alloc | apply pw_below_drewN | apply below_drew1 | refine below_set ?_ GE458.out | refine below_set ?_ GE459.out | refine below_set ?_ GE481.out) | exact HB.out)⟩⟩
                       ·rw [if_neg c52] at H
                        have c52b0 : decide (0 < x72_4) = false := decide_eq_false c52
                        clear c52
                        have H' := Aside0.mk H
                        clear H
                        have p480 : 0 ≤ (x72_4 : Int) := of_decide_eq_true (by first | (with_reducible assumption) | assumption)
                        have q480 : x72_4 < (t476.length : Int) := of_decide_eq_true (by first | (with_reducible assumption) | assumption)
                        obtain ⟨ad480, e480, hx480_0, hx480_1, hx480_2, hx480_3⟩ := at_T29 (Kd.V_reads' HO_70.out).2.2 x72_4 p480 q480
                        cases e480
                        replace p480 := eq_true p480
                        replace q480 := eq_true q480
                        go_wp2_with (first | ((with_reducible refine gate_dst (N := 20) rfl ?_); (try (refine gate_guard (by rfl) ?_; dsimp only)); refine box_event ?hg (N := 20) ?hd (cs := #[.int .i64 0, .int .i64 0, .int .u8 0, .int .i64 0]) (t := 29) ?hr ?_; (case hd => rfl); (case hg => rfl); (case hr => first | (go_simp; done) | (go_simp; rfl)); intro gb481 hg w80 hbox hb; have n0_ := Aside0.mk (Kd.V_below (Kd.V_elderB (by (with_reducible repeat (first | apply Kd.V_alloc | apply Kd.V_drewN | apply Kd.V_drew)); exact HO_16.out) gb481 (Nat.le_of_eq hg.symm)) hb); have n1_ := Aside0.mk (Kd.R_below (by (with_reducible repeat (first | apply Kd.R_alloc | apply Kd.R_drewN | apply Kd.R_drew)); exact HO_55.out) hb); have n2_ := Aside0.mk (Kd.V_below (Kd.V_elderB (by (with_reducible repeat (first | apply Kd.V_alloc | apply Kd.V_drewN | apply Kd.V_drew)); exact HO_70.out) gb481 (Nat.le_of_eq hg.symm)) hb); have n3_ := Aside0.mk (blk_below (g := gb458) (o := .cells #[.int .i64 t453, .int .i64 t454, .int .u8 t455, .int .i64 t456] 29 (0, 0)) (by (with_reducible repeat (first | refine blk_drewN ?_ _ | refine blk_drew ?_ | refine blk_alloc ?_ _)); exact BK458.out) hb); have n4_ := Aside0.mk (blk_below (g := gb459) (o := .cells #[.int .i64 x460000_4, .int .i64 x460001_4, .int .u8 x460002_4, .int .i64 x460003_4] 29 (0, 0)) (by (with_reducible repeat (first | refine blk_drewN ?_ _ | refine blk_drew ?_ | refine blk_alloc ?_ _)); exact BK459.out) hb); have n5_ := Aside0.mk (below_step (by repeat (first | (with_reducible first | exact HB.out | apply below_alloc | apply pw_below_drewN | apply below_drew1 | refine below_set ?_ GE458.out | refine below_set ?_ GE459.out) | exact HB.out)) hb); have n6_ := Aside0.mk (hbox); have n7_ := Aside0.mk ((by rw [hg]; exact (below_size (by repeat (first | (with_reducible first | exact HB.out | apply below_alloc | apply pw_below_drewN | apply below_drew1 | refine below_set ?_ GE458.out | refine below_set ?_ GE459.out) | exact HB.out))) : w.heap.size ≤ gb481)); have n8_ := Aside0.mk ((by rw [hg]; exact (below_size (by repeat (first | (with_reducible first | exact HB.out | apply below_alloc | apply pw_below_drewN | apply below_drew1 | refine below_set ?_ GE458.out | refine below_set ?_ GE459.out) | exact HB.out))) : w.heap.size ≤ gb481)); have n9_ := Aside0.mk ((by rw [hg]; exact Nat.ne_of_lt (blk_lt (g := gb458) (o := .cells #[.int .i64 t453, .int .i64 t454, .int .u8 t455, .int .i64 t456] 29 (0, 0)) (by (with_reducible repeat (first | refine blk_drewN ?_ _ | refine blk_drew ?_ | refine blk_alloc ?_ _)); exact BK458.out)) : gb458 ≠ gb481)); have n10_ := Aside0.mk ((by rw [hg]; exact Nat.ne_of_gt (blk_lt (g := gb458) (o := .cells #[.int .i64 t453, .int .i64 t454, .int .u8 t455, .int .i64 t456] 29 (0, 0)) (by (with_reducible repeat (first | refine blk_drewN ?_ _ | refine blk_drew ?_ | refine blk_alloc ?_ _)); exact BK458.out)) : gb481 ≠ gb458)); have n11_ := Aside0.mk ((by rw [hg]; exact Nat.ne_of_lt (blk_lt (g := gb459) (o := .cells #[.int .i64 x460000_4, .int .i64 x460001_4, .int .u8 x460002_4, .int .i64 x460003_4] 29 (0, 0)) (by (with_reducible repeat (first | refine blk_drewN ?_ _ | refine blk_drew ?_ | refine blk_alloc ?_ _)); exact BK459.out)) : gb459 ≠ gb481)); have n12_ := Aside0.mk ((by rw [hg]; exact Nat.ne_of_gt (blk_lt (g := gb459) (o := .cells #[.int .i64 x460000_4, .int .i64 x460001_4, .int .u8 x460002_4, .int .i64 x460003_4] 29 (0, 0)) (by (with_reducible repeat (first | refine blk_drewN ?_ _ | refine blk_drew ?_ | refine blk_alloc ?_ _)); exact BK459.out)) : gb481 ≠ gb459)); clear HO_16; clear HO_55; clear HO_70; clear BK458; clear BK459; clear HB; have HO_16 := n0_; have HO_55 := n1_; have HO_70 := n2_; have BK458 := n3_; have BK459 := n4_; have HB := n5_; have BK481 := n6_; have GW481 := n7_; have GE481 := n8_; have NB458_481 := n9_; have NB481_458 := n10_; have NB459_481 := n11_; have NB481_459 := n12_; clear n0_ n1_ n2_ n3_ n4_ n5_ n6_ n7_ n8_ n9_ n10_ n11_ n12_; clear hb hbox hg; have hnb81 := NB481_458.out; have hnc81 := NB458_481.out; have hnb82 := NB481_459.out; have hnc82 := NB459_481.out; have hcz83_0 : w80.cell? ⟨gb481, 0, none⟩ = some (.int .i64 0) := (blk_cell BK481.out 0).trans rfl; have hcz83_1 : w80.cell? ⟨gb481, 1, none⟩ = some (.int .i64 0) := (blk_cell BK481.out 1).trans rfl; have hcz83_2 : w80.cell? ⟨gb481, 2, none⟩ = some (.int .u8 0) := (blk_cell BK481.out 2).trans rfl; have hcz83_3 : w80.cell? ⟨gb481, 3, none⟩ = some (.int .i64 0) := (blk_cell BK481.out 3).trans rfl; have hfz83_0 := blk_frozen BK481.out 0; have hfz83_1 := blk_frozen BK481.out 1; have hfz83_2 := blk_frozen BK481.out 2; have hfz83_3 := blk_frozen BK481.out 3; have hnb84 := NB459_458.out; have hnc84 := NB458_459.out; have hcz85_0 : w80.cell? ⟨gb459, 0, none⟩ = some (.int .i64 x460000_4) := (blk_cell BK459.out 0).trans rfl; have hcz85_1 : w80.cell? ⟨gb459, 1, none⟩ = some (.int .i64 x460001_4) := (blk_cell BK459.out 1).trans rfl; have hcz85_2 : w80.cell? ⟨gb459, 2, none⟩ = some (.int .u8 x460002_4) := (blk_cell BK459.out 2).trans rfl; have hcz85_3 : w80.cell? ⟨gb459, 3, none⟩ = some (.int .i64 x460003_4) := (blk_cell BK459.out 3).trans rfl; have hfz85_0 := blk_frozen BK459.out 0; have hfz85_1 := blk_frozen BK459.out 1; have hfz85_2 := blk_frozen BK459.out 2; have hfz85_3 := blk_frozen BK459.out 3))
                        go_roundg k4
                        case measure => have := HJ5.out; have := HJ12.out; have := HK3.out; have := HK4.out; omega
                        case rel => exact ⟨(wrap64 (x13_4 + 1)), (wrap64 (x72_4 + 1)), ((rd_T29 t476 x72_4).f0), ((rd_T29 t476 x72_4).f1), ((rd_T29 t476 x72_4).f2), ((rd_T29 t476 x72_4).f3), (by first | rfl | (simp; done) | (simp [*]; done)), (by first | rfl | (simp; done) | (simp [*]; done)), H', ⟨by have := HJ5.out; have := HJ12.out; have := HK3.out; have := HK4.out; omega⟩, ⟨by (with_reducible repeat (first | apply Kd.V_alloc | apply Kd.V_drewN | apply Kd.V_drew)); exact Kd.V_mono (Kd.V_far (p := ⟨gb459, 3, none⟩) (Kd.V_far (p := ⟨gb459, 2, none⟩) (Kd.V_far (p := ⟨gb459, 1, none⟩) (Kd.V_far (p := ⟨gb459, 0, none⟩) (Kd.V_far (p := ⟨gb481, 3, none⟩) (Kd.V_far (p := ⟨gb481, 2, none⟩) (Kd.V_far (p := ⟨gb481, 1, none⟩) (Kd.V_far (p := ⟨gb481, 0, none⟩) (Kd.V_mono (Kd.V_mono HO_16.out (fun k_ hk => (⟨hk, hk.2⟩ : _ ∧ k_ ≠ gb481))) (fun k_ hk => (⟨hk, hk.1.1.2.2⟩ : _ ∧ k_ ≠ gb459))) (fun _ hk => hk.1.2) (.int .i64 ((rd_T29 t476 x72_4).f0))) (fun _ hk => hk.1.2) (.int .i64 ((rd_T29 t476 x72_4).f1))) (fun _ hk => hk.1.2) (.int .u8 ((rd_T29 t476 x72_4).f2))) (fun _ hk => hk.1.2) (.int .i64 ((rd_T29 t476 x72_4).f3))) (fun _ hk => hk.2) (.int .i64 ((rd_T29 t476 x72_4).f0))) (fun _ hk => hk.2) (.int .i64 ((rd_T29 t476 x72_4).f1))) (fun _ hk => hk.2) (.int .u8 ((rd_T29 t476 x72_4).f2))) (fun _ hk => hk.2) (.int .i64 ((rd_T29 t476 x72_4).f3))) (fun _ hk => ⟨hk.1.1.1.1, ⟨hk.1.1.1.2.1, hk.1.1.1.2.2⟩⟩)⟩, ⟨by (with_reducible repeat (first | apply Kd.R_alloc | apply Kd.R_drewN | apply Kd.R_drew)); exact Kd.R_mono (Kd.R_far (p := ⟨gb459, 3, none⟩) (Kd.R_far (p := ⟨gb459, 2, none⟩) (Kd.R_far (p := ⟨gb459, 1, none⟩) (Kd.R_far (p := ⟨gb459, 0, none⟩) (Kd.R_far (p := ⟨gb481, 3, none⟩) (Kd.R_far (p := ⟨gb481, 2, none⟩) (Kd.R_far (p := ⟨gb481, 1, none⟩) (Kd.R_far (p := ⟨gb481, 0, none⟩) (Kd.R_types (Kd.R_types HO_55.out BK481.out (by decide)) BK459.out (by decide)) (fun _ hk => hk.1.2) (.int .i64 ((rd_T29 t476 x72_4).f0))) (fun _ hk => hk.1.2) (.int .i64 ((rd_T29 t476 x72_4).f1))) (fun _ hk => hk.1.2) (.int .u8 ((rd_T29 t476 x72_4).f2))) (fun _ hk => hk.1.2) (.int .i64 ((rd_T29 t476 x72_4).f3))) (fun _ hk => hk.2) (.int .i64 ((rd_T29 t476 x72_4).f0))) (fun _ hk => hk.2) (.int .i64 ((rd_T29 t476 x72_4).f1))) (fun _ hk => hk.2) (.int .u8 ((rd_T29 t476 x72_4).f2))) (fun _ hk => hk.2) (.int .i64 ((rd_T29 t476 x72_4).f3))) (fun _ hk => trivial)⟩, ⟨by (with_reducible repeat (first | apply Kd.V_alloc | apply Kd.V_drewN | apply Kd.V_drew)); exact Kd.V_mono (Kd.V_far (p := ⟨gb459, 3, none⟩) (Kd.V_far (p := ⟨gb459, 2, none⟩) (Kd.V_far (p := ⟨gb459, 1, none⟩) (Kd.V_far (p := ⟨gb459, 0, none⟩) (Kd.V_far (p := ⟨gb481, 3, none⟩) (Kd.V_far (p := ⟨gb481, 2, none⟩) (Kd.V_far (p := ⟨gb481, 1, none⟩) (Kd.V_far (p := ⟨gb481, 0, none⟩) (Kd.V_mono (Kd.V_mono HO_70.out (fun k_ hk => (⟨hk, hk.2⟩ : _ ∧ k_ ≠ gb481))) (fun k_ hk => (⟨hk, hk.1.1.2.2⟩ : _ ∧ k_ ≠ gb459))) (fun _ hk => hk.1.2) (.int .i64 ((rd_T29 t476 x72_4).f0))) (fun _ hk => hk.1.2) (.int .i64 ((rd_T29 t476 x72_4).f1))) (fun _ hk => hk.1.2) (.int .u8 ((rd_T29 t476 x72_4).f2))) (fun _ hk => hk.1.2) (.int .i64 ((rd_T29 t476 x72_4).f3))) (fun _ hk => hk.2) (.int .i64 ((rd_T29 t476 x72_4).f0))) (fun _ hk => hk.2) (.int .i64 ((rd_T29 t476 x72_4).f1))) (fun _ hk => hk.2) (.int .u8 ((rd_T29 t476 x72_4).f2))) (fun _ hk => hk.2) (.int .i64 ((rd_T29 t476 x72_4).f3))) (fun _ hk => ⟨hk.1.1.1.1, ⟨hk.1.1.1.2.1, hk.1.1.1.2.2⟩⟩)⟩, ⟨by (with_reducible repeat (first | refine blk_drewN ?_ _ | refine blk_drew ?_ | refine blk_alloc ?_ _)); refine blk_far ?_ NB458_459.out _; (with_reducible repeat (first | refine blk_drewN ?_ _ | refine blk_drew ?_ | refine blk_alloc ?_ _)); refine blk_far ?_ NB458_459.out _; (with_reducible repeat (first | refine blk_drewN ?_ _ | refine blk_drew ?_ | refine blk_alloc ?_ _)); refine blk_far ?_ NB458_459.out _; (with_reducible repeat (first | refine blk_drewN ?_ _ | refine blk_drew ?_ | refine blk_alloc ?_ _)); refine blk_far ?_ NB458_459.out _; (with_reducible repeat (first | refine blk_drewN ?_ _ | refine blk_drew ?_ | refine blk_alloc ?_ _)); refine blk_far ?_ NB458_481.out _; (with_reducible repeat (first | refine blk_drewN ?_ _ | refine blk_drew ?_ | refine blk_alloc ?_ _)); refine blk_far ?_ NB458_481.out _; (with_reducible repeat (first | refine blk_drewN ?_ _ | refine blk_drew ?_ | refine blk_alloc ?_ _)); refine blk_far ?_ NB458_481.out _; (with_reducible repeat (first | refine blk_drewN ?_ _ | refine blk_drew ?_ | refine blk_alloc ?_ _)); refine blk_far ?_ NB458_481.out _; (with_reducible repeat (first | refine blk_drewN ?_ _ | refine blk_drew ?_ | refine blk_alloc ?_ _)); exact BK458.out⟩, ⟨by (with_reducible repeat (first | refine blk_drewN ?_ _ | refine blk_drew ?_ | refine blk_alloc ?_ _)); refine blk_put (cs := #[.int .i64 ((rd_T29 t476 x72_4).f0), .int .i64 ((rd_T29 t476 x72_4).f1), .int .u8 ((rd_T29 t476 x72_4).f2), .int .i64 x460003_4]) ?_ 3 _ rfl; (with_reducible repeat (first | refine blk_drewN ?_ _ | refine blk_drew ?_ | refine blk_alloc ?_ _)); refine blk_put (cs := #[.int .i64 ((rd_T29 t476 x72_4).f0), .int .i64 ((rd_T29 t476 x72_4).f1), .int .u8 x460002_4, .int .i64 x460003_4]) ?_ 2 _ rfl; (with_reducible repeat (first | refine blk_drewN ?_ _ | refine blk_drew ?_ | refine blk_alloc ?_ _)); refine blk_put (cs := #[.int .i64 ((rd_T29 t476 x72_4).f0), .int .i64 x460001_4, .int .u8 x460002_4, .int .i64 x460003_4]) ?_ 1 _ rfl; (with_reducible repeat (first | refine blk_drewN ?_ _ | refine blk_drew ?_ | refine blk_alloc ?_ _)); refine blk_put (cs := #[.int .i64 x460000_4, .int .i64 x460001_4, .int .u8 x460002_4, .int .i64 x460003_4]) ?_ 0 _ rfl; (with_reducible repeat (first | refine blk_drewN ?_ _ | refine blk_drew ?_ | refine blk_alloc ?_ _)); refine blk_far ?_ NB459_481.out _; (with_reducible repeat (first | refine blk_drewN ?_ _ | refine blk_drew ?_ | refine blk_alloc ?_ _)); refine blk_far ?_ NB459_481.out _; (with_reducible repeat (first | refine blk_drewN ?_ _ | refine blk_drew ?_ | refine blk_alloc ?_ _)); refine blk_far ?_ NB459_481.out _; (with_reducible repeat (first | refine blk_drewN ?_ _ | refine blk_drew ?_ | refine blk_alloc ?_ _)); refine blk_far ?_ NB459_481.out _; (with_reducible repeat (first | refine blk_drewN ?_ _ | refine blk_drew ?_ | refine blk_alloc ?_ _)); exact BK459.out⟩, ⟨by repeat (first | (with_reducible first | exact HB.out | apply below_alloc | apply pw_below_drewN | apply below_drew1 | refine below_set ?_ GE458.out | refine below_set ?_ GE459.out | refine below_set ?_ GE481.out) | exact HB.out)⟩⟩
                    ·rw [if_neg c41] at H
                     exact absurd H (by simp)
                   ·rw [if_neg c40] at H
                    exact absurd H (by simp)
                  ·rw [if_neg c39] at H
                   have c39b0 : decide (x72_4 < (t476.length : Int)) = false := decide_eq_false c39
                   clear c39
                   have H' := Aside0.mk H
                   clear H
                   go_wp2
                   go_roundg k4
                   case measure => have := HJ5.out; have := HJ12.out; have := HK3.out; have := HK4.out; omega
                   case rel => exact ⟨(t473), (x13_4), (wrap64 (x57_3 + 1)), (x460000_4), (x460001_4), (x460002_4), (x460003_4), (by first | rfl | (simp; done) | (simp [*]; done)), (by first | rfl | (simp; done) | (simp [*]; done)), H', ⟨by have := HJ5.out; have := HJ12.out; have := HK3.out; have := HK4.out; omega⟩, ⟨by (with_reducible repeat (first | apply Kd.V_alloc | apply Kd.V_drewN | apply Kd.V_drew)); exact HO_16.out⟩, ⟨by (with_reducible repeat (first | apply Kd.R_alloc | apply Kd.R_drewN | apply Kd.R_drew)); exact HO_55.out⟩, ⟨by (with_reducible repeat (first | refine blk_drewN ?_ _ | refine blk_drew ?_ | refine blk_alloc ?_ _)); exact BK458.out⟩, ⟨by (with_reducible repeat (first | refine blk_drewN ?_ _ | refine blk_drew ?_ | refine blk_alloc ?_ _)); exact BK459.out⟩, ⟨by repeat (first | (with_reducible first | exact HB.out | apply below_alloc | apply pw_below_drewN | apply below_drew1 | refine below_set ?_ GE458.out | refine below_set ?_ GE459.out) | exact HB.out)⟩⟩
               ·rw [if_neg c35] at H
                have c35b0 : (t479 == 0) = false := beq_eq_false_iff_ne.mpr c35
                have c35b1 : (t479 != 0) = true := bne_iff_ne.mpr c35
                obtain rfl := Option.some.inj H
                have p472 : 0 ≤ (x57_3 : Int) := of_decide_eq_true (by first | (with_reducible assumption) | assumption)
                have q472 : x57_3 < (y469.length : Int) := of_decide_eq_true (by first | (with_reducible assumption) | assumption)
                obtain ⟨ad472, e472, hx472_0⟩ := Kd.at_int (Kd.R_reads' HO_55.out).2.2 x57_3 p472 q472
                cases e472
                replace p472 := eq_true p472
                replace q472 := eq_true q472
                obtain ⟨Ao86, co86, eo86⟩ := Kd.V_slice HO_7.out
                subst eo86
                go_wp2_with (first | ((with_reducible refine gate_callee (f := 16) rfl ?_); refine goesL_ (some 64) rfl rfl Try.func16 (by kernel_rfl) rfl #[.slice Ao86 x7_3.length co86, .int .i64 (rd y469 x57_3)] rfl (by (try simp only [List.map_toArray, List.map_cons, List.map_nil]); first | done | rfl | (simp only [List.length_drop, List.length_take]; rfl)) ?_; (with_reducible refine (due_Drain.calls k3 _ _ x7_3 (rd y469 x57_3) t473 t476 t479 _ ?side1 ?side2 A34.out).mono ?_); (case side1 => repeat (first | exact (Kd.V_reads' HO_7.out).2.2 | (with_reducible refine Kd.C_alloc ?_ _) | (with_reducible refine Kd.C_drewN ?_ _) | (with_reducible refine Kd.C_drew ?_))); (case side2 => exact (Kd.V_reads' HO_7.out).2.1); rintro e w87 ⟨v474, v477, rfl, ho0, ho1, hb⟩; refine ⟨_, rfl, ?_⟩; have n0_ := Aside0.mk (Kd.V_below (by (with_reducible repeat (first | apply Kd.V_alloc | apply Kd.V_drewN | apply Kd.V_drew)); exact HO_7.out) hb); have n1_ := Aside0.mk (Kd.R_below (by (with_reducible repeat (first | apply Kd.R_alloc | apply Kd.R_drewN | apply Kd.R_drew)); exact HO_55.out) hb); have n2_ := Aside0.mk (Kd.V_lower (Kd.V_mono (ok' := fun k_ => some k_ ≠ (.slice (some ad472) y469.length co30 : Value).ownBlock ∧ k_ ≠ gb458 ∧ k_ ≠ gb459) ho0 (fun k_ hk_ => ⟨(Kd.fresh' (Kd.R_lt (by (with_reducible repeat (first | apply Kd.R_alloc | apply Kd.R_drewN | apply Kd.R_drew)); exact HO_55.out)) k_ hk_), (Kd.freshB (g := gb458) (o := .cells #[.int .i64 t453, .int .i64 t454, .int .u8 t455, .int .i64 t456] 29 (0, 0)) (by (with_reducible repeat (first | refine blk_drewN ?_ _ | refine blk_drew ?_ | refine blk_alloc ?_ _)); exact BK458.out) k_ hk_), (Kd.freshB (g := gb459) (o := .cells #[.int .i64 x460000_3, .int .i64 x460001_3, .int .u8 x460002_3, .int .i64 x460003_3] 29 (0, 0)) (by (with_reducible repeat (first | refine blk_drewN ?_ _ | refine blk_drew ?_ | refine blk_alloc ?_ _)); exact BK459.out) k_ hk_)⟩)) (below_size (by repeat (first | (with_reducible first | exact HB.out | apply below_alloc | apply pw_below_drewN | apply below_drew1 | refine below_set ?_ GE458.out | refine below_set ?_ GE459.out) | exact HB.out)))); have n3_ := Aside0.mk (Kd.V_lower (Kd.V_mono (ok' := fun k_ => some k_ ≠ (.slice (some ad472) y469.length co30 : Value).ownBlock ∧ k_ ≠ gb458 ∧ k_ ≠ gb459) ho1 (fun k_ hk_ => ⟨(Kd.fresh' (Kd.R_lt (by (with_reducible repeat (first | apply Kd.R_alloc | apply Kd.R_drewN | apply Kd.R_drew)); exact HO_55.out)) k_ hk_), (Kd.freshB (g := gb458) (o := .cells #[.int .i64 t453, .int .i64 t454, .int .u8 t455, .int .i64 t456] 29 (0, 0)) (by (with_reducible repeat (first | refine blk_drewN ?_ _ | refine blk_drew ?_ | refine blk_alloc ?_ _)); exact BK458.out) k_ hk_), (Kd.freshB (g := gb459) (o := .cells #[.int .i64 x460000_3, .int .i64 x460001_3, .int .u8 x460002_3, .int .i64 x460003_3] 29 (0, 0)) (by (with_reducible repeat (first | refine blk_drewN ?_ _ | refine blk_drew ?_ | refine blk_alloc ?_ _)); exact BK459.out) k_ hk_)⟩)) (below_size (by repeat (first | (with_reducible first | exact HB.out | apply below_alloc | apply pw_below_drewN | apply below_drew1 | refine below_set ?_ GE458.out | refine below_set ?_ GE459.out) | exact HB.out)))); have n4_ := Aside0.mk (blk_below (g := gb458) (o := .cells #[.int .i64 t453, .int .i64 t454, .int .u8 t455, .int .i64 t456] 29 (0, 0)) (by (with_reducible repeat (first | refine blk_drewN ?_ _ | refine blk_drew ?_ | refine blk_alloc ?_ _)); exact BK458.out) hb); have n5_ := Aside0.mk (blk_below (g := gb459) (o := .cells #[.int .i64 x460000_3, .int .i64 x460001_3, .int .u8 x460002_3, .int .i64 x460003_3] 29 (0, 0)) (by (with_reducible repeat (first | refine blk_drewN ?_ _ | refine blk_drew ?_ | refine blk_alloc ?_ _)); exact BK459.out) hb); have n6_ := Aside0.mk (below_step (by repeat (first | (with_reducible first | exact HB.out | apply below_alloc | apply pw_below_drewN | apply below_drew1 | refine below_set ?_ GE458.out | refine below_set ?_ GE459.out) | exact HB.out)) hb); clear HO_7; clear HO_55; clear BK458; clear BK459; clear HB; have HO_7 := n0_; have HO_55 := n1_; have HO475 := n2_; have HO478 := n3_; have BK458 := n4_; have BK459 := n5_; have HB := n6_; clear n0_ n1_ n2_ n3_ n4_ n5_ n6_; (try clear hb); (try clear hb2); (try clear hk); (try clear hi); (try clear ho0); (try clear ho1)))
                go_ret
                exact ⟨by first | rfl | (simp [errW_none, errW_some] <;> rfl) | (simp [*, errW_none, errW_some] <;> rfl), by repeat (first | (with_reducible first | exact HB.out | apply below_alloc | apply pw_below_drewN | apply below_drew1 | refine below_set ?_ GE458.out | refine below_set ?_ GE459.out) | exact HB.out)⟩
              ·rw [if_neg c33] at H
               exact absurd H (by simp)
             ·rw [if_neg c32] at H
              exact absurd H (by simp)
            ·rw [if_neg c31] at H
             have c31b0 : decide (x57_3 < (y469.length : Int)) = false := decide_eq_false c31
             clear c31
             by_cases c88 : (x7_3.length : Int) = 0
             ·rw [if_pos c88] at H
              have c88b0 : ((x7_3.length : Int) == 0) = true := beq_iff_eq.mpr c88
              have c88b1 : ((x7_3.length : Int) != 0) = false := bne_eq_false_iff_eq.mpr c88
              clear c88
              obtain rfl := Option.some.inj H
              obtain ⟨Ao89, co89, eo89⟩ := Kd.V_slice HO_7.out
              subst eo89
              go_wp2
              go_ret
              exact ⟨by first | rfl | (simp [errW_none, errW_some] <;> rfl) | (simp [*, errW_none, errW_some] <;> rfl), by repeat (first | (with_reducible first | exact HB.out | apply below_alloc | apply pw_below_drewN | apply below_drew1 | refine below_set ?_ GE458.out | refine below_set ?_ GE459.out) | exact HB.out)⟩
             ·rw [if_neg c88] at H
              have c88b0 : ((x7_3.length : Int) == 0) = false := beq_eq_false_iff_ne.mpr c88
              have c88b1 : ((x7_3.length : Int) != 0) = true := bne_iff_ne.mpr c88
              have c88b2 : ¬ (x7_3 = []) := fun h_ => c88 (by rw [h_]; rfl)
              obtain rfl := Option.some.inj H
              obtain ⟨Ao90, co90, eo90⟩ := Kd.V_slice HO_7.out
              subst eo90
              go_wp2
              go_ret
              exact ⟨by first | rfl | (simp [errW_none, errW_some] <;> rfl) | (simp [*, errW_none, errW_some] <;> rfl), by repeat (first | (with_reducible first | exact HB.out | apply below_alloc | apply pw_below_drewN | apply below_drew1 | refine below_set ?_ GE458.out | refine below_set ?_ GE459.out) | exact HB.out)⟩
         ·rw [if_neg c21] at H
          exact absurd H (by simp)
        ·rw [if_neg c20] at H
         exact absurd H (by simp)
     ·rw [if_neg c11] at H
      have c11b0 : (t449 == 0) = false := beq_eq_false_iff_ne.mpr c11
      have c11b1 : (t449 != 0) = true := bne_iff_ne.mpr c11
      obtain rfl := Option.some.inj H
      go_wp2_with (first | ((with_reducible refine gate_callee (f := 14) rfl ?_); refine goesL_ (some 33) rfl rfl Try.func14 (by kernel_rfl) rfl #[.slice A0 l0.length c0] rfl (by (try simp only [List.map_toArray, List.map_cons, List.map_nil]); first | done | rfl | (simp only [List.length_drop, List.length_take]; rfl)) ?_; (with_reducible refine (heap_Make.calls _ _ l0 t446 t449 _ ?side1 ?side2 A10.out).mono ?_); (case side1 => repeat (first | exact (Kd.C_below HR0.out HB.out) | (with_reducible refine Kd.C_alloc ?_ _) | (with_reducible refine Kd.C_drewN ?_ _) | (with_reducible refine Kd.C_drew ?_))); (case side2 => exact HC0.out); rintro e w91 ⟨v447, rfl, ho0, hb⟩; refine ⟨_, rfl, ?_⟩; have n0_ := Aside0.mk (Kd.V_lower (Kd.V_mono (ok' := fun k_ => True) ho0 (fun k_ hk_ => trivial)) (below_size (by repeat (first | (with_reducible first | exact HB.out | apply below_alloc | apply pw_below_drewN | apply below_drew1) | exact HB.out)))); have n1_ := Aside0.mk (below_step (by repeat (first | (with_reducible first | exact HB.out | apply below_alloc | apply pw_below_drewN | apply below_drew1) | exact HB.out)) hb); clear HB; have HO448 := n0_; have HB := n1_; clear n0_ n1_; (try clear hb); (try clear hb2); (try clear hk); (try clear hi); (try clear ho0)))
      go_ret
      exact ⟨by first | rfl | (simp [errW_none, errW_some] <;> rfl) | (simp [*, errW_none, errW_some] <;> rfl), by repeat (first | (with_reducible first | exact HB.out | apply below_alloc | apply pw_below_drewN | apply below_drew1) | exact HB.out)⟩
 ·replace c5 := Bool.eq_false_iff.mpr c5
  subst c5
  have H1 : (none) = some r := by rw [if_neg (show ¬ (false = true) by decide)] at H; exact H
  clear H
  have H := H1
  clear H1
  exact absurd H (by simp)

end Go.Proofs.Ytlpbolkbdcgmnaa.XD
-- squeezed
