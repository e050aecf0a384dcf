-- by px.py, a program of this session, over the kit's printer: functions given by hand stand beside printed ones. Lean checks all of it.
import Derived.Test.YtlnadfhhgcpkpaaXW0
import Derived.Test.YtlnadfhhgcpkpaaXW7
import Derived.Test.YtlnadfhhgcpkpaaXW10
import Derived.Test.YtlnadfhhgcpkpaaXW12
import Derived.Test.YtlnadfhhgcpkpaaXW17
namespace Go.Proofs.Ytlnadfhhgcpkpaa.XW
open Go.RowKit Go.Proofs.YtlnadfhhgcpkpaaW.PrintWords Go.Proofs.YtlnadfhhgcpkpaaW.PrintLast Go.Proofs.YtlnadfhhgcpkpaaW.PrintMore
attribute [local go_sem] max2_int min2_int max_two min_two max_three min_three max_four min_four   -- for this text's walks alone
set_option linter.unusedVariables false
set_option linter.unusedSimpArgs false

/-! ### bellmanlaw07_WeekNext: function 7 -/
def bellmanlaw07_WeekNext.j0 : Nat → List (S38) → Int → Int → Bool → Int → Bool → Option (Bool)
 | 0, _, _, _, _, _, _ => none
 | k + 1, x0, x1, x2, x3, x9, x81 => if x81 = true then (some false) else (if x2 < 0 then (some true) else (if x2 ≥ x9 then (some true) else ((week_Has.f k x0 (Int.tmod (wrap64 (x1 + x2)) 10080)).bind fun bt469 => (if bt469.2 = 0 then (some (bt469.1 != x3)) else (some false)))))
def bellmanlaw07_WeekNext.f (k : Nat) (l0 : List (S38)) (a1 : Int) (a2 : Int) (a3 : Bool) : Option (Bool) := (bellmanlaw07_lives.f k).bind fun t462 => (if t462 = true then ((week_Next.f k l0 a1 a3).bind fun bt463 => (if bt463.2 = 0 then ((week_Has.f k l0 (Int.tmod (wrap64 (a1 + bt463.1)) 10080)).bind fun bt467 => (if bt467.2 = 0 then (if (bt467.1 != a3) = true then (bellmanlaw07_WeekNext.j0 k l0 a1 a2 a3 bt463.1 true) else (if bt463.1 < 0 then (bellmanlaw07_WeekNext.j0 k l0 a1 a2 a3 bt463.1 true) else (bellmanlaw07_WeekNext.j0 k l0 a1 a2 a3 bt463.1 (decide (bt463.1 ≥ 10080))))) else (bellmanlaw07_WeekNext.j0 k l0 a1 a2 a3 bt463.1 true))) else ((week_Sum.f k l0).bind fun bt465 => (if bt463.1 = 0 then (if bt463.2 = 3 then (if bt465.2 = 0 then (if a3 = true then (if bt465.1 = 0 then (some true) else (none)) else (some (bt465.1 == 10080))) else (none)) else (some true)) else (none))))) else (none))
theorem bellmanlaw07_WeekNext.mono_l : ∀ k, (∀ y0 y1 y2 y3 y4 y5, LeO (bellmanlaw07_WeekNext.j0 k y0 y1 y2 y3 y4 y5) (bellmanlaw07_WeekNext.j0 (k + 1) y0 y1 y2 y3 y4 y5))
 | 0 => fun _ _ _ _ _ _ r h => by simp [bellmanlaw07_WeekNext.j0] at h
 | k + 1 => by
  have ih0 := bellmanlaw07_WeekNext.mono_l k
  ·intro y0 y1 y2 y3 y4 y5
   unfold bellmanlaw07_WeekNext.j0
   repeat' first
   | (with_reducible exact ih0 _ _ _ _ _ _)
   | (with_reducible exact bellmanlaw07_lives.mono _)
   | (with_reducible exact week_Has.mono _ _ _)
   | (with_reducible exact week_Next.mono _ _ _ _)
   | (with_reducible exact week_Sum.mono _ _)
   | (with_reducible exact LeO.refl _)
   | (with_reducible exact LeO.none _)
   | (with_reducible refine LeO.ite ?_ ?_)
   | (with_reducible refine LeO.bind ?_ (fun _ => ?_))
   | exact ih0 _ _ _ _ _ _
   | exact bellmanlaw07_lives.mono _
   | exact week_Has.mono _ _ _
   | exact week_Next.mono _ _ _ _
   | exact week_Sum.mono _ _
   | exact LeO.none _
   | refine LeO.ite ?_ ?_
   | refine LeO.bind ?_ (fun _ => ?_)
theorem bellmanlaw07_WeekNext.mono : ∀ a0 a1 a2 a3 k, LeO (bellmanlaw07_WeekNext.f k a0 a1 a2 a3) (bellmanlaw07_WeekNext.f (k + 1) a0 a1 a2 a3) := by
 intro a0 a1 a2 a3 k
 have ih0 := bellmanlaw07_WeekNext.mono_l k
 unfold bellmanlaw07_WeekNext.f
 repeat' first
   | (with_reducible exact ih0 _ _ _ _ _ _)
   | (with_reducible exact bellmanlaw07_lives.mono _)
   | (with_reducible exact week_Has.mono _ _ _)
   | (with_reducible exact week_Next.mono _ _ _ _)
   | (with_reducible exact week_Sum.mono _ _)
   | (with_reducible exact LeO.refl _)
   | (with_reducible exact LeO.none _)
   | (with_reducible refine LeO.ite ?_ ?_)
   | (with_reducible refine LeO.bind ?_ (fun _ => ?_))
   | exact ih0 _ _ _ _ _ _
   | exact bellmanlaw07_lives.mono _
   | exact week_Has.mono _ _ _
   | exact week_Next.mono _ _ _ _
   | exact week_Sum.mono _ _
   | exact LeO.none _
   | refine LeO.ite ?_ ?_
   | refine LeO.bind ?_ (fun _ => ?_)
set_option maxHeartbeats 8000000 in
set_option maxRecDepth 100000 in
theorem bellmanlaw07_WeekNext.calls (k : Nat) (A0 : Option Addr) (c0 : Nat) (l0 : List (S38)) (a1 : Int) (a2 : Int) (a3 : Bool) (r : Bool) (w : World) (hr0 : Kd.C k38 w A0 l0.length l0) (hc0 : l0.length ≤ c0) (h : bellmanlaw07_WeekNext.f k l0 a1 a2 a3 = some r) :
  Calls Try.prog 7 #[.slice A0 l0.length c0, .int .i64 a1, .int .i64 a2, .bool a3] w fun e w' => e = .returned (.bool r) ∧ Below w.heap.size w w' := by
 have HR0 := Aside0.mk hr0
 have HC0 := Aside0.mk hc0
 clear hr0 hc0
 have HB := Aside0.mk (Below.refl w.heap.size w)
 have H : ((bellmanlaw07_lives.f k).bind fun t462 => (if t462 = true then ((week_Next.f k l0 a1 a3).bind fun bt463 => (if bt463.2 = 0 then ((week_Has.f k l0 (Int.tmod (wrap64 (a1 + bt463.1)) 10080)).bind fun bt467 => (if bt467.2 = 0 then (if (bt467.1 != a3) = true then (bellmanlaw07_WeekNext.j0 k l0 a1 a2 a3 bt463.1 true) else (if bt463.1 < 0 then (bellmanlaw07_WeekNext.j0 k l0 a1 a2 a3 bt463.1 true) else (bellmanlaw07_WeekNext.j0 k l0 a1 a2 a3 bt463.1 (decide (bt463.1 ≥ 10080))))) else (bellmanlaw07_WeekNext.j0 k l0 a1 a2 a3 bt463.1 true))) else ((week_Sum.f k l0).bind fun bt465 => (if bt463.1 = 0 then (if bt463.2 = 3 then (if bt465.2 = 0 then (if a3 = true then (if bt465.1 = 0 then (some true) else (none)) else (some (bt465.1 == 10080))) else (none)) else (some true)) else (none))))) else (none))) = some r := h
 clear h
 replace H := Option.bind_eq_some_iff.mp H
 obtain ⟨t462, A50, H⟩ := H
 replace H : (if t462 = true then ((week_Next.f k l0 a1 a3).bind fun bt463 => (if bt463.2 = 0 then ((week_Has.f k l0 (Int.tmod (wrap64 (a1 + bt463.1)) 10080)).bind fun bt467 => (if bt467.2 = 0 then (if (bt467.1 != a3) = true then (bellmanlaw07_WeekNext.j0 k l0 a1 a2 a3 bt463.1 true) else (if bt463.1 < 0 then (bellmanlaw07_WeekNext.j0 k l0 a1 a2 a3 bt463.1 true) else (bellmanlaw07_WeekNext.j0 k l0 a1 a2 a3 bt463.1 (decide (bt463.1 ≥ 10080))))) else (bellmanlaw07_WeekNext.j0 k l0 a1 a2 a3 bt463.1 true))) else ((week_Sum.f k l0).bind fun bt465 => (if bt463.1 = 0 then (if bt463.2 = 3 then (if bt465.2 = 0 then (if a3 = true then (if bt465.1 = 0 then (some true) else (none)) else (some (bt465.1 == 10080))) else (none)) else (some true)) else (none))))) else (none)) = some r := H
 have A5 := Aside0.mk A50
 clear A50
 by_cases c6 : t462 = true
 ·subst c6
  have H1 : ((week_Next.f k l0 a1 a3).bind fun bt463 => (if bt463.2 = 0 then ((week_Has.f k l0 (Int.tmod (wrap64 (a1 + bt463.1)) 10080)).bind fun bt467 => (if bt467.2 = 0 then (if (bt467.1 != a3) = true then (bellmanlaw07_WeekNext.j0 k l0 a1 a2 a3 bt463.1 true) else (if bt463.1 < 0 then (bellmanlaw07_WeekNext.j0 k l0 a1 a2 a3 bt463.1 true) else (bellmanlaw07_WeekNext.j0 k l0 a1 a2 a3 bt463.1 (decide (bt463.1 ≥ 10080))))) else (bellmanlaw07_WeekNext.j0 k l0 a1 a2 a3 bt463.1 true))) else ((week_Sum.f k l0).bind fun bt465 => (if bt463.1 = 0 then (if bt463.2 = 3 then (if bt465.2 = 0 then (if a3 = true then (if bt465.1 = 0 then (some true) else (none)) else (some (bt465.1 == 10080))) else (none)) else (some true)) else (none))))) = some r := by rw [if_pos rfl] at H; exact H
  clear H
  have H := H1
  clear H1
  replace H := Option.bind_eq_some_iff.mp H
  obtain ⟨⟨t463, t464⟩, A70, H⟩ := H
  replace H : (if t464 = 0 then ((week_Has.f k l0 (Int.tmod (wrap64 (a1 + t463)) 10080)).bind fun bt467 => (if bt467.2 = 0 then (if (bt467.1 != a3) = true then (bellmanlaw07_WeekNext.j0 k l0 a1 a2 a3 t463 true) else (if t463 < 0 then (bellmanlaw07_WeekNext.j0 k l0 a1 a2 a3 t463 true) else (bellmanlaw07_WeekNext.j0 k l0 a1 a2 a3 t463 (decide (t463 ≥ 10080))))) else (bellmanlaw07_WeekNext.j0 k l0 a1 a2 a3 t463 true))) else ((week_Sum.f k l0).bind fun bt465 => (if t463 = 0 then (if t464 = 3 then (if bt465.2 = 0 then (if a3 = true then (if bt465.1 = 0 then (some true) else (none)) else (some (bt465.1 == 10080))) else (none)) else (some true)) else (none)))) = some r := H
  have A7 := Aside0.mk A70
  clear A70
  by_cases c8 : t464 = 0
  ·rw [if_pos c8] at H
   have c8b0 : (t464 == 0) = true := beq_iff_eq.mpr c8
   have c8b1 : (t464 != 0) = false := bne_eq_false_iff_eq.mpr c8
   clear c8
   replace H := Option.bind_eq_some_iff.mp H
   obtain ⟨⟨t467, t468⟩, A90, H⟩ := H
   replace H : (if t468 = 0 then (if (t467 != a3) = true then (bellmanlaw07_WeekNext.j0 k l0 a1 a2 a3 t463 true) else (if t463 < 0 then (bellmanlaw07_WeekNext.j0 k l0 a1 a2 a3 t463 true) else (bellmanlaw07_WeekNext.j0 k l0 a1 a2 a3 t463 (decide (t463 ≥ 10080))))) else (bellmanlaw07_WeekNext.j0 k l0 a1 a2 a3 t463 true)) = some r := H
   have A9 := Aside0.mk A90
   clear A90
   have HC10 := Aside0.mk H
   clear H
   go_enter Try.func7, Try.ntmps7
   go_upto_region 8 with (first | ((with_reducible refine gate_callee (f := 16) rfl ?_); refine goesL_ (some 17) rfl rfl Try.func16 (by kernel_rfl) rfl #[] rfl (by (try simp only [List.map_toArray, List.map_cons, List.map_nil]); first | done | rfl | (simp only [List.length_drop, List.length_take]; rfl)) ?_; (with_reducible refine (bellmanlaw07_lives.calls k  true _ A5.out).mono ?_); rintro e w11 ⟨rfl, hb⟩; refine ⟨_, rfl, ?_⟩; have n0_ := Aside0.mk (below_step (by repeat (first | (with_reducible first | exact HB.out | apply below_alloc | apply pw_below_drewN | apply below_drew1) | exact HB.out)) hb); clear HB; have HB := n0_; clear n0_; (try clear hb); (try clear hb2); (try clear hk); (try clear hi)) | ((with_reducible refine gate_callee (f := 14) rfl ?_); refine goesL_ (some 23) rfl rfl Try.func14 (by kernel_rfl) rfl #[.slice A0 l0.length c0, .int .i64 a1, .bool a3] rfl (by (try simp only [List.map_toArray, List.map_cons, List.map_nil]); first | done | rfl | (simp only [List.length_drop, List.length_take]; rfl)) ?_; (with_reducible refine (week_Next.calls k _ _ l0 a1 a3 t463 t464 _ ?side1 ?side2 A7.out).mono ?_); (case side1 => repeat (first | exact (Kd.C_below HR0.out HB.out) | (with_reducible refine Kd.C_alloc ?_ _) | (with_reducible refine Kd.C_drewN ?_ _) | (with_reducible refine Kd.C_drew ?_))); (case side2 => exact HC0.out); rintro e w12 ⟨rfl, hb⟩; refine ⟨_, rfl, ?_⟩; have n0_ := Aside0.mk (below_step (by repeat (first | (with_reducible first | exact HB.out | apply below_alloc | apply pw_below_drewN | apply below_drew1) | exact HB.out)) hb); clear HB; have HB := n0_; clear n0_; (try clear hb); (try clear hb2); (try clear hk); (try clear hi)) | ((with_reducible refine gate_callee (f := 10) rfl ?_); refine goesL_ (some 64) rfl rfl Try.func10 (by kernel_rfl) rfl #[.slice A0 l0.length c0, .int .i64 (Int.tmod (wrap64 (a1 + t463)) 10080)] rfl (by (try simp only [List.map_toArray, List.map_cons, List.map_nil]); first | done | rfl | (simp only [List.length_drop, List.length_take]; rfl)) ?_; (with_reducible refine (week_Has.calls k _ _ l0 (Int.tmod (wrap64 (a1 + t463)) 10080) t467 t468 _ ?side1 ?side2 A9.out).mono ?_); (case side1 => repeat (first | exact (Kd.C_below HR0.out HB.out) | (with_reducible refine Kd.C_alloc ?_ _) | (with_reducible refine Kd.C_drewN ?_ _) | (with_reducible refine Kd.C_drew ?_))); (case side2 => exact HC0.out); rintro e w13 ⟨rfl, hb⟩; refine ⟨_, rfl, ?_⟩; have n0_ := Aside0.mk (below_step (by repeat (first | (with_reducible first | exact HB.out | apply below_alloc | apply pw_below_drewN | apply below_drew1) | exact HB.out)) hb); clear HB; have HB := n0_; clear n0_; (try clear hb); (try clear hb2); (try clear hk); (try clear hi)))
   (try simp only [Act.put, List.setIfInBounds_toArray, List.set_cons_zero, List.set_cons_succ])
   go_cut [81] (fun v81 wc => ∃ (kq : Nat) (x81_9 : Bool), v81 = .bool x81_9 ∧ Aside0 (bellmanlaw07_WeekNext.j0 kq l0 a1 a2 a3 t463 x81_9 = some r) ∧ Aside0 (kq ≤ k) ∧ Aside0 (Below w.heap.size w wc))
   case first =>
    have H := HC10.out
    clear HC10
    by_cases c14 : t468 = 0
    ·rw [if_pos c14] at H
     have c14b0 : (t468 == 0) = true := beq_iff_eq.mpr c14
     have c14b1 : (t468 != 0) = false := bne_eq_false_iff_eq.mpr c14
     clear c14
     (first | rw [c14b0] | (simp only [i64_w, i32_w]; rw [c14b0]) | skip)
     by_cases c15 : (t467 != a3) = true
     ·rw [if_pos c15] at H
      have c15b0 : (t467 != a3) = true := c15
      (try (have c15b1 : decide (t467 = a3) = false := by simpa using c15))
      (try (have c15b2 : (t467 == a3) = false := by simpa using c15))
      (try (have c15b3 : ¬ (t467 = a3) := by simpa using c15))
      clear c15
      have H' := Aside0.mk H
      clear H
      go_wp2
      go_meet
      case rel => exact ⟨_, (true), (by first | rfl | (simp; done) | (simp [*]; done)), H', ⟨by first | omega | exact Nat.le_refl _⟩, ⟨by repeat (first | (with_reducible first | exact HB.out | apply below_alloc | apply pw_below_drewN | apply below_drew1) | exact HB.out)⟩⟩
     ·rw [if_neg c15] at H
      have c15b0 : (t467 != a3) = false := by simpa using c15
      (try (have c15b1 : decide (t467 = a3) = true := by simpa using c15))
      (try (have c15b2 : (t467 == a3) = true := by simpa using c15))
      clear c15
      by_cases c16 : t463 < 0
      ·rw [if_pos c16] at H
       have c16b0 : decide (t463 < 0) = true := decide_eq_true c16
       clear c16
       have H' := Aside0.mk H
       clear H
       go_wp2
       go_meet
       case rel => exact ⟨_, (true), (by first | rfl | (simp; done) | (simp [*]; done)), H', ⟨by first | omega | exact Nat.le_refl _⟩, ⟨by repeat (first | (with_reducible first | exact HB.out | apply below_alloc | apply pw_below_drewN | apply below_drew1) | exact HB.out)⟩⟩
      ·rw [if_neg c16] at H
       have c16b0 : decide (t463 < 0) = false := decide_eq_false c16
       clear c16
       have H' := Aside0.mk H
       clear H
       go_wp2
       go_meet
       case rel => exact ⟨_, (decide (t463 ≥ 10080)), (by first | rfl | (simp; done) | (simp [*]; done)), H', ⟨by first | omega | exact Nat.le_refl _⟩, ⟨by repeat (first | (with_reducible first | exact HB.out | apply below_alloc | apply pw_below_drewN | apply below_drew1) | exact HB.out)⟩⟩
    ·rw [if_neg c14] at H
     have c14b0 : (t468 == 0) = false := beq_eq_false_iff_ne.mpr c14
     have c14b1 : (t468 != 0) = true := bne_iff_ne.mpr c14
     (first | rw [c14b0] | (simp only [i64_w, i32_w]; rw [c14b0]) | skip)
     have H' := Aside0.mk H
     clear H
     go_wp2
     go_meet
     case rel => exact ⟨_, (true), (by first | rfl | (simp; done) | (simp [*]; done)), H', ⟨by first | omega | exact Nat.le_refl _⟩, ⟨by repeat (first | (with_reducible first | exact HB.out | apply below_alloc | apply pw_below_drewN | apply below_drew1) | exact HB.out)⟩⟩
   case rest =>
    clear HC10
    try clear c1
    try clear p2
    try clear c6
    try clear p6
    try clear c7
    try clear c8
    try clear c8b0
    try clear c8b1
    try clear c10
    try clear c14
    try clear c14b0
    try clear c14b1
    try clear c15
    try clear c15b0
    try clear c15b1
    try clear c15b2
    try clear c16
    try clear c16b0
    obtain ⟨kq, x81_9, rfl, HA, HJ9, HB⟩ := hcut
    cases kq with
    | zero => exact absurd HA.out (by simp [bellmanlaw07_WeekNext.j0])
    | succ kj9 =>
     have H := HA.out
     clear HA
     simp only [bellmanlaw07_WeekNext.j0] at H
     by_cases c17 : x81_9 = true
     ·subst c17
      have H1 : (some false) = some r := by rw [if_pos rfl] at H; exact H
      clear H
      have H := H1
      clear H1
      obtain rfl := Option.some.inj H
      go_wp2
      go_ret
      exact ⟨by first | rfl | (simp [errW_none, errW_some] <;> rfl) | (simp [*, errW_none, errW_some] <;> rfl), by repeat (first | (with_reducible first | exact HB.out | apply below_alloc | apply pw_below_drewN | apply below_drew1) | exact HB.out)⟩
     ·replace c17 := Bool.eq_false_iff.mpr c17
      subst c17
      have H1 : (if a2 < 0 then (some true) else (if a2 ≥ t463 then (some true) else ((week_Has.f kj9 l0 (Int.tmod (wrap64 (a1 + a2)) 10080)).bind fun bt469 => (if bt469.2 = 0 then (some (bt469.1 != a3)) else (some false))))) = some r := by rw [if_neg (show ¬ (false = true) by decide)] at H; exact H
      clear H
      have H := H1
      clear H1
      by_cases c18 : a2 < 0
      ·rw [if_pos c18] at H
       have c18b0 : decide (a2 < 0) = true := decide_eq_true c18
       clear c18
       obtain rfl := Option.some.inj H
       go_wp2
       go_ret
       exact ⟨by first | rfl | (simp [errW_none, errW_some] <;> rfl) | (simp [*, errW_none, errW_some] <;> rfl), by repeat (first | (with_reducible first | exact HB.out | apply below_alloc | apply pw_below_drewN | apply below_drew1) | exact HB.out)⟩
      ·rw [if_neg c18] at H
       have c18b0 : decide (a2 < 0) = false := decide_eq_false c18
       clear c18
       by_cases c19 : a2 ≥ t463
       ·rw [if_pos c19] at H
        have c19b0 : decide (t463 ≤ a2) = true := decide_eq_true c19
        clear c19
        obtain rfl := Option.some.inj H
        go_wp2
        go_ret
        exact ⟨by first | rfl | (simp [errW_none, errW_some] <;> rfl) | (simp [*, errW_none, errW_some] <;> rfl), by repeat (first | (with_reducible first | exact HB.out | apply below_alloc | apply pw_below_drewN | apply below_drew1) | exact HB.out)⟩
       ·rw [if_neg c19] at H
        have c19b0 : decide (t463 ≤ a2) = false := decide_eq_false c19
        clear c19
        replace H := Option.bind_eq_some_iff.mp H
        obtain ⟨⟨t469, t470⟩, A200, H⟩ := H
        replace H : (if t470 = 0 then (some (t469 != a3)) else (some false)) = some r := H
        have A20 := Aside0.mk A200
        clear A200
        by_cases c21 : t470 = 0
        ·rw [if_pos c21] at H
         have c21b0 : (t470 == 0) = true := beq_iff_eq.mpr c21
         have c21b1 : (t470 != 0) = false := bne_eq_false_iff_eq.mpr c21
         clear c21
         obtain rfl := Option.some.inj H
         go_wp2_with (first | ((with_reducible refine gate_callee (f := 10) rfl ?_); refine goesL_ (some 95) rfl rfl Try.func10 (by kernel_rfl) rfl #[.slice A0 l0.length c0, .int .i64 (Int.tmod (wrap64 (a1 + a2)) 10080)] rfl (by (try simp only [List.map_toArray, List.map_cons, List.map_nil]); first | done | rfl | (simp only [List.length_drop, List.length_take]; rfl)) ?_; (with_reducible refine (week_Has.calls kj9 _ _ l0 (Int.tmod (wrap64 (a1 + a2)) 10080) t469 t470 _ ?side1 ?side2 A20.out).mono ?_); (case side1 => repeat (first | exact (Kd.C_below HR0.out HB.out) | (with_reducible refine Kd.C_alloc ?_ _) | (with_reducible refine Kd.C_drewN ?_ _) | (with_reducible refine Kd.C_drew ?_))); (case side2 => exact HC0.out); rintro e w22 ⟨rfl, hb⟩; refine ⟨_, rfl, ?_⟩; have n0_ := Aside0.mk (below_step (by repeat (first | (with_reducible first | exact HB.out | apply below_alloc | apply pw_below_drewN | apply below_drew1) | exact HB.out)) hb); clear HB; have HB := n0_; clear n0_; (try clear hb); (try clear hb2); (try clear hk); (try clear hi)))
         go_ret
         exact ⟨by first | rfl | (simp [errW_none, errW_some] <;> rfl) | (simp [*, errW_none, errW_some] <;> rfl), by repeat (first | (with_reducible first | exact HB.out | apply below_alloc | apply pw_below_drewN | apply below_drew1) | exact HB.out)⟩
        ·rw [if_neg c21] at H
         have c21b0 : (t470 == 0) = false := beq_eq_false_iff_ne.mpr c21
         have c21b1 : (t470 != 0) = true := bne_iff_ne.mpr c21
         obtain rfl := Option.some.inj H
         go_wp2_with (first | ((with_reducible refine gate_callee (f := 10) rfl ?_); refine goesL_ (some 95) rfl rfl Try.func10 (by kernel_rfl) rfl #[.slice A0 l0.length c0, .int .i64 (Int.tmod (wrap64 (a1 + a2)) 10080)] rfl (by (try simp only [List.map_toArray, List.map_cons, List.map_nil]); first | done | rfl | (simp only [List.length_drop, List.length_take]; rfl)) ?_; (with_reducible refine (week_Has.calls kj9 _ _ l0 (Int.tmod (wrap64 (a1 + a2)) 10080) t469 t470 _ ?side1 ?side2 A20.out).mono ?_); (case side1 => repeat (first | exact (Kd.C_below HR0.out HB.out) | (with_reducible refine Kd.C_alloc ?_ _) | (with_reducible refine Kd.C_drewN ?_ _) | (with_reducible refine Kd.C_drew ?_))); (case side2 => exact HC0.out); rintro e w23 ⟨rfl, hb⟩; refine ⟨_, rfl, ?_⟩; have n0_ := Aside0.mk (below_step (by repeat (first | (with_reducible first | exact HB.out | apply below_alloc | apply pw_below_drewN | apply below_drew1) | exact HB.out)) hb); clear HB; have HB := n0_; clear n0_; (try clear hb); (try clear hb2); (try clear hk); (try clear hi)))
         go_ret
         exact ⟨by first | rfl | (simp [errW_none, errW_some] <;> rfl) | (simp [*, errW_none, errW_some] <;> rfl), by repeat (first | (with_reducible first | exact HB.out | apply below_alloc | apply pw_below_drewN | apply below_drew1) | exact HB.out)⟩
  ·rw [if_neg c8] at H
   have c8b0 : (t464 == 0) = false := beq_eq_false_iff_ne.mpr c8
   have c8b1 : (t464 != 0) = true := bne_iff_ne.mpr c8
   replace H := Option.bind_eq_some_iff.mp H
   obtain ⟨⟨t465, t466⟩, A240, H⟩ := H
   replace H : (if t463 = 0 then (if t464 = 3 then (if t466 = 0 then (if a3 = true then (if t465 = 0 then (some true) else (none)) else (some (t465 == 10080))) else (none)) else (some true)) else (none)) = some r := H
   have A24 := Aside0.mk A240
   clear A240
   by_cases c25 : t463 = 0
   ·rw [if_pos c25] at H
    have c25b0 : (t463 == 0) = true := beq_iff_eq.mpr c25
    have c25b1 : (t463 != 0) = false := bne_eq_false_iff_eq.mpr c25
    clear c25
    by_cases c26 : t464 = 3
    ·rw [if_pos c26] at H
     have c26b0 : (t464 == 3) = true := beq_iff_eq.mpr c26
     have c26b1 : (t464 != 3) = false := bne_eq_false_iff_eq.mpr c26
     clear c26
     by_cases c27 : t466 = 0
     ·rw [if_pos c27] at H
      have c27b0 : (t466 == 0) = true := beq_iff_eq.mpr c27
      have c27b1 : (t466 != 0) = false := bne_eq_false_iff_eq.mpr c27
      clear c27
      by_cases c28 : a3 = true
      ·subst c28
       have H1 : (if t465 = 0 then (some true) else (none)) = some r := by rw [if_pos rfl] at H; exact H
       clear H
       have H := H1
       clear H1
       by_cases c29 : t465 = 0
       ·rw [if_pos c29] at H
        have c29b0 : (t465 == 0) = true := beq_iff_eq.mpr c29
        have c29b1 : (t465 != 0) = false := bne_eq_false_iff_eq.mpr c29
        clear c29
        obtain rfl := Option.some.inj H
        go_enter Try.func7, Try.ntmps7
        go_wp2_with (first | ((with_reducible refine gate_callee (f := 16) rfl ?_); refine goesL_ (some 17) rfl rfl Try.func16 (by kernel_rfl) rfl #[] rfl (by (try simp only [List.map_toArray, List.map_cons, List.map_nil]); first | done | rfl | (simp only [List.length_drop, List.length_take]; rfl)) ?_; (with_reducible refine (bellmanlaw07_lives.calls k  true _ A5.out).mono ?_); rintro e w30 ⟨rfl, hb⟩; refine ⟨_, rfl, ?_⟩; have n0_ := Aside0.mk (below_step (by repeat (first | (with_reducible first | exact HB.out | apply below_alloc | apply pw_below_drewN | apply below_drew1) | exact HB.out)) hb); clear HB; have HB := n0_; clear n0_; (try clear hb); (try clear hb2); (try clear hk); (try clear hi)) | ((with_reducible refine gate_callee (f := 14) rfl ?_); refine goesL_ (some 23) rfl rfl Try.func14 (by kernel_rfl) rfl #[.slice A0 l0.length c0, .int .i64 a1, .bool true] rfl (by (try simp only [List.map_toArray, List.map_cons, List.map_nil]); first | done | rfl | (simp only [List.length_drop, List.length_take]; rfl)) ?_; (with_reducible refine (week_Next.calls k _ _ l0 a1 true t463 t464 _ ?side1 ?side2 A7.out).mono ?_); (case side1 => repeat (first | exact (Kd.C_below HR0.out HB.out) | (with_reducible refine Kd.C_alloc ?_ _) | (with_reducible refine Kd.C_drewN ?_ _) | (with_reducible refine Kd.C_drew ?_))); (case side2 => exact HC0.out); rintro e w31 ⟨rfl, hb⟩; refine ⟨_, rfl, ?_⟩; have n0_ := Aside0.mk (below_step (by repeat (first | (with_reducible first | exact HB.out | apply below_alloc | apply pw_below_drewN | apply below_drew1) | exact HB.out)) hb); clear HB; have HB := n0_; clear n0_; (try clear hb); (try clear hb2); (try clear hk); (try clear hi)) | ((with_reducible refine gate_callee (f := 12) rfl ?_); refine goesL_ (some 30) rfl rfl Try.func12 (by kernel_rfl) rfl #[.slice A0 l0.length c0] rfl (by (try simp only [List.map_toArray, List.map_cons, List.map_nil]); first | done | rfl | (simp only [List.length_drop, List.length_take]; rfl)) ?_; (with_reducible refine (week_Sum.calls k _ _ l0 t465 t466 _ ?side1 ?side2 A24.out).mono ?_); (case side1 => repeat (first | exact (Kd.C_below HR0.out HB.out) | (with_reducible refine Kd.C_alloc ?_ _) | (with_reducible refine Kd.C_drewN ?_ _) | (with_reducible refine Kd.C_drew ?_))); (case side2 => exact HC0.out); rintro e w32 ⟨rfl, hb⟩; refine ⟨_, rfl, ?_⟩; have n0_ := Aside0.mk (below_step (by repeat (first | (with_reducible first | exact HB.out | apply below_alloc | apply pw_below_drewN | apply below_drew1) | exact HB.out)) hb); clear HB; have HB := n0_; clear n0_; (try clear hb); (try clear hb2); (try clear hk); (try clear hi)))
        go_ret
        exact ⟨by first | rfl | (simp [errW_none, errW_some] <;> rfl) | (simp [*, errW_none, errW_some] <;> rfl), by repeat (first | (with_reducible first | exact HB.out | apply below_alloc | apply pw_below_drewN | apply below_drew1) | exact HB.out)⟩
       ·rw [if_neg c29] at H
        exact absurd H (by simp)
      ·replace c28 := Bool.eq_false_iff.mpr c28
       subst c28
       have H1 : (some (t465 == 10080)) = some r := by rw [if_neg (show ¬ (false = true) by decide)] at H; exact H
       clear H
       have H := H1
       clear H1
       obtain rfl := Option.some.inj H
       go_enter Try.func7, Try.ntmps7
       go_wp2_with (first | ((with_reducible refine gate_callee (f := 16) rfl ?_); refine goesL_ (some 17) rfl rfl Try.func16 (by kernel_rfl) rfl #[] rfl (by (try simp only [List.map_toArray, List.map_cons, List.map_nil]); first | done | rfl | (simp only [List.length_drop, List.length_take]; rfl)) ?_; (with_reducible refine (bellmanlaw07_lives.calls k  true _ A5.out).mono ?_); rintro e w33 ⟨rfl, hb⟩; refine ⟨_, rfl, ?_⟩; have n0_ := Aside0.mk (below_step (by repeat (first | (with_reducible first | exact HB.out | apply below_alloc | apply pw_below_drewN | apply below_drew1) | exact HB.out)) hb); clear HB; have HB := n0_; clear n0_; (try clear hb); (try clear hb2); (try clear hk); (try clear hi)) | ((with_reducible refine gate_callee (f := 14) rfl ?_); refine goesL_ (some 23) rfl rfl Try.func14 (by kernel_rfl) rfl #[.slice A0 l0.length c0, .int .i64 a1, .bool false] rfl (by (try simp only [List.map_toArray, List.map_cons, List.map_nil]); first | done | rfl | (simp only [List.length_drop, List.length_take]; rfl)) ?_; (with_reducible refine (week_Next.calls k _ _ l0 a1 false t463 t464 _ ?side1 ?side2 A7.out).mono ?_); (case side1 => repeat (first | exact (Kd.C_below HR0.out HB.out) | (with_reducible refine Kd.C_alloc ?_ _) | (with_reducible refine Kd.C_drewN ?_ _) | (with_reducible refine Kd.C_drew ?_))); (case side2 => exact HC0.out); rintro e w34 ⟨rfl, hb⟩; refine ⟨_, rfl, ?_⟩; have n0_ := Aside0.mk (below_step (by repeat (first | (with_reducible first | exact HB.out | apply below_alloc | apply pw_below_drewN | apply below_drew1) | exact HB.out)) hb); clear HB; have HB := n0_; clear n0_; (try clear hb); (try clear hb2); (try clear hk); (try clear hi)) | ((with_reducible refine gate_callee (f := 12) rfl ?_); refine goesL_ (some 30) rfl rfl Try.func12 (by kernel_rfl) rfl #[.slice A0 l0.length c0] rfl (by (try simp only [List.map_toArray, List.map_cons, List.map_nil]); first | done | rfl | (simp only [List.length_drop, List.length_take]; rfl)) ?_; (with_reducible refine (week_Sum.calls k _ _ l0 t465 t466 _ ?side1 ?side2 A24.out).mono ?_); (case side1 => repeat (first | exact (Kd.C_below HR0.out HB.out) | (with_reducible refine Kd.C_alloc ?_ _) | (with_reducible refine Kd.C_drewN ?_ _) | (with_reducible refine Kd.C_drew ?_))); (case side2 => exact HC0.out); rintro e w35 ⟨rfl, hb⟩; refine ⟨_, rfl, ?_⟩; have n0_ := Aside0.mk (below_step (by repeat (first | (with_reducible first | exact HB.out | apply below_alloc | apply pw_below_drewN | apply below_drew1) | exact HB.out)) hb); clear HB; have HB := n0_; clear n0_; (try clear hb); (try clear hb2); (try clear hk); (try clear hi)))
       go_ret
       exact ⟨by first | rfl | (simp [errW_none, errW_some] <;> rfl) | (simp [*, errW_none, errW_some] <;> rfl), by repeat (first | (with_reducible first | exact HB.out | apply below_alloc | apply pw_below_drewN | apply below_drew1) | exact HB.out)⟩
     ·rw [if_neg c27] at H
      exact absurd H (by simp)
    ·rw [if_neg c26] at H
     have c26b0 : (t464 == 3) = false := beq_eq_false_iff_ne.mpr c26
     have c26b1 : (t464 != 3) = true := bne_iff_ne.mpr c26
     obtain rfl := Option.some.inj H
     go_enter Try.func7, Try.ntmps7
     go_wp2_with (first | ((with_reducible refine gate_callee (f := 16) rfl ?_); refine goesL_ (some 17) rfl rfl Try.func16 (by kernel_rfl) rfl #[] rfl (by (try simp only [List.map_toArray, List.map_cons, List.map_nil]); first | done | rfl | (simp only [List.length_drop, List.length_take]; rfl)) ?_; (with_reducible refine (bellmanlaw07_lives.calls k  true _ A5.out).mono ?_); rintro e w36 ⟨rfl, hb⟩; refine ⟨_, rfl, ?_⟩; have n0_ := Aside0.mk (below_step (by repeat (first | (with_reducible first | exact HB.out | apply below_alloc | apply pw_below_drewN | apply below_drew1) | exact HB.out)) hb); clear HB; have HB := n0_; clear n0_; (try clear hb); (try clear hb2); (try clear hk); (try clear hi)) | ((with_reducible refine gate_callee (f := 14) rfl ?_); refine goesL_ (some 23) rfl rfl Try.func14 (by kernel_rfl) rfl #[.slice A0 l0.length c0, .int .i64 a1, .bool a3] rfl (by (try simp only [List.map_toArray, List.map_cons, List.map_nil]); first | done | rfl | (simp only [List.length_drop, List.length_take]; rfl)) ?_; (with_reducible refine (week_Next.calls k _ _ l0 a1 a3 t463 t464 _ ?side1 ?side2 A7.out).mono ?_); (case side1 => repeat (first | exact (Kd.C_below HR0.out HB.out) | (with_reducible refine Kd.C_alloc ?_ _) | (with_reducible refine Kd.C_drewN ?_ _) | (with_reducible refine Kd.C_drew ?_))); (case side2 => exact HC0.out); rintro e w37 ⟨rfl, hb⟩; refine ⟨_, rfl, ?_⟩; have n0_ := Aside0.mk (below_step (by repeat (first | (with_reducible first | exact HB.out | apply below_alloc | apply pw_below_drewN | apply below_drew1) | exact HB.out)) hb); clear HB; have HB := n0_; clear n0_; (try clear hb); (try clear hb2); (try clear hk); (try clear hi)) | ((with_reducible refine gate_callee (f := 12) rfl ?_); refine goesL_ (some 30) rfl rfl Try.func12 (by kernel_rfl) rfl #[.slice A0 l0.length c0] rfl (by (try simp only [List.map_toArray, List.map_cons, List.map_nil]); first | done | rfl | (simp only [List.length_drop, List.length_take]; rfl)) ?_; (with_reducible refine (week_Sum.calls k _ _ l0 t465 t466 _ ?side1 ?side2 A24.out).mono ?_); (case side1 => repeat (first | exact (Kd.C_below HR0.out HB.out) | (with_reducible refine Kd.C_alloc ?_ _) | (with_reducible refine Kd.C_drewN ?_ _) | (with_reducible refine Kd.C_drew ?_))); (case side2 => exact HC0.out); rintro e w38 ⟨rfl, hb⟩; refine ⟨_, rfl, ?_⟩; have n0_ := Aside0.mk (below_step (by repeat (first | (with_reducible first | exact HB.out | apply below_alloc | apply pw_below_drewN | apply below_drew1) | exact HB.out)) hb); clear HB; have HB := n0_; clear n0_; (try clear hb); (try clear hb2); (try clear hk); (try clear hi)))
     go_ret
     exact ⟨by first | rfl | (simp [errW_none, errW_some] <;> rfl) | (simp [*, errW_none, errW_some] <;> rfl), by repeat (first | (with_reducible first | exact HB.out | apply below_alloc | apply pw_below_drewN | apply below_drew1) | exact HB.out)⟩
   ·rw [if_neg c25] at H
    exact absurd H (by simp)
 ·replace c6 := Bool.eq_false_iff.mpr c6
  subst c6
  have H1 : (none) = some r := by rw [if_neg (show ¬ (false = true) by decide)] at H; exact H
  clear H
  have H := H1
  clear H1
  exact absurd H (by simp)

end Go.Proofs.Ytlnadfhhgcpkpaa.XW
-- squeezed
