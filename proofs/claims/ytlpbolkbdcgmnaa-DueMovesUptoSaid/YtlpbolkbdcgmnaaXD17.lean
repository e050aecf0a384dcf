-- by px.py, a program of this session, over the kit's printer: functions given by hand stand beside printed ones. Lean checks all of it.
import Derived.Test.YtlpbolkbdcgmnaaXD0
import Derived.Test.YtlpbolkbdcgmnaaXD7
import Derived.Test.YtlpbolkbdcgmnaaXD11
import Derived.Test.YtlpbolkbdcgmnaaXD12
import Derived.Test.YtlpbolkbdcgmnaaXD13
import Derived.Test.YtlpbolkbdcgmnaaXD16
namespace Go.Proofs.Ytlpbolkbdcgmnaa.XD
open Go.RowKit Go.Proofs.YtlpbolkbdcgmnaaW.PrintWords Go.Proofs.YtlpbolkbdcgmnaaW.PrintLast Go.Proofs.YtlpbolkbdcgmnaaW.PrintMore
attribute [local go_sem] max2_int min2_int max_two min_two max_three min_three max_four min_four   -- for this text's walks alone
set_option linter.unusedVariables false
set_option linter.unusedSimpArgs false

/-! ### bellmanlaw16_DueMoves: function 9 -/
def bellmanlaw16_DueMoves.f (k : Nat) (l0 : List (S29)) (a1 : Int) (a2 : Int) (a3 : Int) (a4 : Int) : Option (Bool) := if (l0.length : Int) > 100 then ((bellmanlaw16_lives.f k).bind fun t324 => (some t324)) else ((due_Move.f k l0 a1 a2).bind fun bt325 => ((bellmanref16_Move.f k l0 a1 a2).bind fun bt329 => ((due_Of.f k l0 a3 a4).bind fun bt333 => ((bellmanref16_Of.f k l0 a3 a4).bind fun bt337 => ((due_Clear.f k l0 a3 a4).bind fun bt341 => ((bellmanref16_Clear.f k l0 a3 a4).bind fun bt346 => ((bellmanlaw16_lives.f k).bind fun t351 => (if t351 = true then ((bellmanref15_Is.f k bt325.1 bt329.1).bind fun t352 => (if t352 = true then (if bt325.2 = bt329.2 then ((bellmanref15_Same.f k bt333.1 bt337.1).bind fun t353 => (if t353 = true then (if bt333.2 = bt337.2 then ((bellmanref15_Is.f k bt341.1 bt346.1).bind fun t354 => (if t354 = true then (if bt341.2.1 = bt346.2.1 then (some (bt341.2.2 == bt346.2.2)) else (none)) else (none))) else (none)) else (none))) else (none)) else (none))) else (none)))))))))
theorem bellmanlaw16_DueMoves.mono : ∀ a0 a1 a2 a3 a4 k, LeO (bellmanlaw16_DueMoves.f k a0 a1 a2 a3 a4) (bellmanlaw16_DueMoves.f (k + 1) a0 a1 a2 a3 a4) := by
 intro a0 a1 a2 a3 a4 k
 unfold bellmanlaw16_DueMoves.f
 repeat' first
   | (with_reducible exact bellmanlaw16_lives.mono _)
   | (with_reducible exact bellmanref15_Is.mono _ _ _)
   | (with_reducible exact bellmanref15_Same.mono _ _ _)
   | (with_reducible exact bellmanref16_Clear.mono _ _ _ _)
   | (with_reducible exact bellmanref16_Move.mono _ _ _ _)
   | (with_reducible exact bellmanref16_Of.mono _ _ _ _)
   | (with_reducible exact due_Clear.mono _ _ _ _)
   | (with_reducible exact due_Move.mono _ _ _ _)
   | (with_reducible exact due_Of.mono _ _ _ _)
   | (with_reducible exact LeO.refl _)
   | (with_reducible exact LeO.none _)
   | (with_reducible refine LeO.ite ?_ ?_)
   | (with_reducible refine LeO.bind ?_ (fun _ => ?_))
   | exact bellmanlaw16_lives.mono _
   | exact bellmanref15_Is.mono _ _ _
   | exact bellmanref15_Same.mono _ _ _
   | exact bellmanref16_Clear.mono _ _ _ _
   | exact bellmanref16_Move.mono _ _ _ _
   | exact bellmanref16_Of.mono _ _ _ _
   | exact due_Clear.mono _ _ _ _
   | exact due_Move.mono _ _ _ _
   | exact due_Of.mono _ _ _ _
   | exact LeO.none _
   | refine LeO.ite ?_ ?_
   | refine LeO.bind ?_ (fun _ => ?_)
set_option maxHeartbeats 8000000 in
set_option maxRecDepth 100000 in
theorem bellmanlaw16_DueMoves.calls (k : Nat) (A0 : Option Addr) (c0 : Nat) (l0 : List (S29)) (a1 : Int) (a2 : Int) (a3 : Int) (a4 : Int) (r : Bool) (w : World) (hr0 : Kd.C k29 w A0 l0.length l0) (hc0 : l0.length ≤ c0) (h : bellmanlaw16_DueMoves.f k l0 a1 a2 a3 a4 = some r) :
  Calls Try.prog 9 #[.slice A0 l0.length c0, .int .i64 a1, .int .i64 a2, .int .u8 a3, .int .i64 a4] w fun e w' => e = .returned (.bool r) ∧ Below w.heap.size w w' := by
 have HR0 := Aside0.mk hr0
 have HC0 := Aside0.mk hc0
 clear hr0 hc0
 have HB := Aside0.mk (Below.refl w.heap.size w)
 have H : (if (l0.length : Int) > 100 then ((bellmanlaw16_lives.f k).bind fun t324 => (some t324)) else ((due_Move.f k l0 a1 a2).bind fun bt325 => ((bellmanref16_Move.f k l0 a1 a2).bind fun bt329 => ((due_Of.f k l0 a3 a4).bind fun bt333 => ((bellmanref16_Of.f k l0 a3 a4).bind fun bt337 => ((due_Clear.f k l0 a3 a4).bind fun bt341 => ((bellmanref16_Clear.f k l0 a3 a4).bind fun bt346 => ((bellmanlaw16_lives.f k).bind fun t351 => (if t351 = true then ((bellmanref15_Is.f k bt325.1 bt329.1).bind fun t352 => (if t352 = true then (if bt325.2 = bt329.2 then ((bellmanref15_Same.f k bt333.1 bt337.1).bind fun t353 => (if t353 = true then (if bt333.2 = bt337.2 then ((bellmanref15_Is.f k bt341.1 bt346.1).bind fun t354 => (if t354 = true then (if bt341.2.1 = bt346.2.1 then (some (bt341.2.2 == bt346.2.2)) else (none)) else (none))) else (none)) else (none))) else (none)) else (none))) else (none)))))))))) = some r := h
 clear h
 by_cases c6 : (l0.length : Int) > 100
 ·rw [if_pos c6] at H
  have c6b0 : decide (100 < (l0.length : Int)) = true := decide_eq_true c6
  have c6b1 : decide (100 < l0.length) = true := decide_eq_true (by omega)
  clear c6
  replace H := Option.bind_eq_some_iff.mp H
  obtain ⟨t324, A70, H⟩ := H
  replace H : (some t324) = some r := H
  have A7 := Aside0.mk A70
  clear A70
  obtain rfl := Option.some.inj H
  go_enter Try.func9, Try.ntmps9
  go_wp2_with (first | ((with_reducible refine gate_callee (f := 29) rfl ?_); refine goesL_ (some 28) rfl rfl Try.func29 (by kernel_rfl) rfl #[] rfl (by (try simp only [List.map_toArray, List.map_cons, List.map_nil]); first | done | rfl | (simp only [List.length_drop, List.length_take]; rfl)) ?_; (with_reducible refine (bellmanlaw16_lives.calls k  t324 _ A7.out).mono ?_); rintro e w8 ⟨rfl, hb⟩; refine ⟨_, rfl, ?_⟩; have n0_ := Aside0.mk (below_step (by repeat (first | (with_reducible first | exact HB.out | apply below_alloc | apply pw_below_drewN | apply below_drew1) | exact HB.out)) hb); clear HB; have HB := n0_; clear n0_; (try clear hb); (try clear hb2); (try clear hk); (try clear hi)))
  go_ret
  exact ⟨by first | rfl | (simp [errW_none, errW_some] <;> rfl) | (simp [*, errW_none, errW_some] <;> rfl), by repeat (first | (with_reducible first | exact HB.out | apply below_alloc | apply pw_below_drewN | apply below_drew1) | exact HB.out)⟩
 ·rw [if_neg c6] at H
  have c6b0 : decide (100 < (l0.length : Int)) = false := decide_eq_false c6
  have c6b1 : decide (100 < l0.length) = false := decide_eq_false (by omega)
  clear c6
  replace H := Option.bind_eq_some_iff.mp H
  obtain ⟨⟨t325, t328⟩, A90, H⟩ := H
  replace H : ((bellmanref16_Move.f k l0 a1 a2).bind fun bt329 => ((due_Of.f k l0 a3 a4).bind fun bt333 => ((bellmanref16_Of.f k l0 a3 a4).bind fun bt337 => ((due_Clear.f k l0 a3 a4).bind fun bt341 => ((bellmanref16_Clear.f k l0 a3 a4).bind fun bt346 => ((bellmanlaw16_lives.f k).bind fun t351 => (if t351 = true then ((bellmanref15_Is.f k t325 bt329.1).bind fun t352 => (if t352 = true then (if t328 = bt329.2 then ((bellmanref15_Same.f k bt333.1 bt337.1).bind fun t353 => (if t353 = true then (if bt333.2 = bt337.2 then ((bellmanref15_Is.f k bt341.1 bt346.1).bind fun t354 => (if t354 = true then (if bt341.2.1 = bt346.2.1 then (some (bt341.2.2 == bt346.2.2)) else (none)) else (none))) else (none)) else (none))) else (none)) else (none))) else (none)))))))) = some r := H
  have A9 := Aside0.mk A90
  clear A90
  replace H := Option.bind_eq_some_iff.mp H
  obtain ⟨⟨t329, t330⟩, A100, H⟩ := H
  replace H : ((due_Of.f k l0 a3 a4).bind fun bt333 => ((bellmanref16_Of.f k l0 a3 a4).bind fun bt337 => ((due_Clear.f k l0 a3 a4).bind fun bt341 => ((bellmanref16_Clear.f k l0 a3 a4).bind fun bt346 => ((bellmanlaw16_lives.f k).bind fun t351 => (if t351 = true then ((bellmanref15_Is.f k t325 t329).bind fun t352 => (if t352 = true then (if t328 = t330 then ((bellmanref15_Same.f k bt333.1 bt337.1).bind fun t353 => (if t353 = true then (if bt333.2 = bt337.2 then ((bellmanref15_Is.f k bt341.1 bt346.1).bind fun t354 => (if t354 = true then (if bt341.2.1 = bt346.2.1 then (some (bt341.2.2 == bt346.2.2)) else (none)) else (none))) else (none)) else (none))) else (none)) else (none))) else (none))))))) = some r := H
  have A10 := Aside0.mk A100
  clear A100
  replace H := Option.bind_eq_some_iff.mp H
  obtain ⟨⟨t333, t336⟩, A110, H⟩ := H
  replace H : ((bellmanref16_Of.f k l0 a3 a4).bind fun bt337 => ((due_Clear.f k l0 a3 a4).bind fun bt341 => ((bellmanref16_Clear.f k l0 a3 a4).bind fun bt346 => ((bellmanlaw16_lives.f k).bind fun t351 => (if t351 = true then ((bellmanref15_Is.f k t325 t329).bind fun t352 => (if t352 = true then (if t328 = t330 then ((bellmanref15_Same.f k t333 bt337.1).bind fun t353 => (if t353 = true then (if t336 = bt337.2 then ((bellmanref15_Is.f k bt341.1 bt346.1).bind fun t354 => (if t354 = true then (if bt341.2.1 = bt346.2.1 then (some (bt341.2.2 == bt346.2.2)) else (none)) else (none))) else (none)) else (none))) else (none)) else (none))) else (none)))))) = some r := H
  have A11 := Aside0.mk A110
  clear A110
  replace H := Option.bind_eq_some_iff.mp H
  obtain ⟨⟨t337, t338⟩, A120, H⟩ := H
  replace H : ((due_Clear.f k l0 a3 a4).bind fun bt341 => ((bellmanref16_Clear.f k l0 a3 a4).bind fun bt346 => ((bellmanlaw16_lives.f k).bind fun t351 => (if t351 = true then ((bellmanref15_Is.f k t325 t329).bind fun t352 => (if t352 = true then (if t328 = t330 then ((bellmanref15_Same.f k t333 t337).bind fun t353 => (if t353 = true then (if t336 = t338 then ((bellmanref15_Is.f k bt341.1 bt346.1).bind fun t354 => (if t354 = true then (if bt341.2.1 = bt346.2.1 then (some (bt341.2.2 == bt346.2.2)) else (none)) else (none))) else (none)) else (none))) else (none)) else (none))) else (none))))) = some r := H
  have A12 := Aside0.mk A120
  clear A120
  replace H := Option.bind_eq_some_iff.mp H
  obtain ⟨⟨t341, t344, t345⟩, A130, H⟩ := H
  replace H : ((bellmanref16_Clear.f k l0 a3 a4).bind fun bt346 => ((bellmanlaw16_lives.f k).bind fun t351 => (if t351 = true then ((bellmanref15_Is.f k t325 t329).bind fun t352 => (if t352 = true then (if t328 = t330 then ((bellmanref15_Same.f k t333 t337).bind fun t353 => (if t353 = true then (if t336 = t338 then ((bellmanref15_Is.f k t341 bt346.1).bind fun t354 => (if t354 = true then (if t344 = bt346.2.1 then (some (t345 == bt346.2.2)) else (none)) else (none))) else (none)) else (none))) else (none)) else (none))) else (none)))) = some r := H
  have A13 := Aside0.mk A130
  clear A130
  replace H := Option.bind_eq_some_iff.mp H
  obtain ⟨⟨t346, t347, t348⟩, A140, H⟩ := H
  replace H : ((bellmanlaw16_lives.f k).bind fun t351 => (if t351 = true then ((bellmanref15_Is.f k t325 t329).bind fun t352 => (if t352 = true then (if t328 = t330 then ((bellmanref15_Same.f k t333 t337).bind fun t353 => (if t353 = true then (if t336 = t338 then ((bellmanref15_Is.f k t341 t346).bind fun t354 => (if t354 = true then (if t344 = t347 then (some (t345 == t348)) else (none)) else (none))) else (none)) else (none))) else (none)) else (none))) else (none))) = some r := H
  have A14 := Aside0.mk A140
  clear A140
  replace H := Option.bind_eq_some_iff.mp H
  obtain ⟨t351, A150, H⟩ := H
  replace H : (if t351 = true then ((bellmanref15_Is.f k t325 t329).bind fun t352 => (if t352 = true then (if t328 = t330 then ((bellmanref15_Same.f k t333 t337).bind fun t353 => (if t353 = true then (if t336 = t338 then ((bellmanref15_Is.f k t341 t346).bind fun t354 => (if t354 = true then (if t344 = t347 then (some (t345 == t348)) else (none)) else (none))) else (none)) else (none))) else (none)) else (none))) else (none)) = some r := H
  have A15 := Aside0.mk A150
  clear A150
  by_cases c16 : t351 = true
  ·subst c16
   have H1 : ((bellmanref15_Is.f k t325 t329).bind fun t352 => (if t352 = true then (if t328 = t330 then ((bellmanref15_Same.f k t333 t337).bind fun t353 => (if t353 = true then (if t336 = t338 then ((bellmanref15_Is.f k t341 t346).bind fun t354 => (if t354 = true then (if t344 = t347 then (some (t345 == t348)) else (none)) else (none))) else (none)) else (none))) else (none)) else (none))) = some r := by rw [if_pos rfl] at H; exact H
   clear H
   have H := H1
   clear H1
   replace H := Option.bind_eq_some_iff.mp H
   obtain ⟨t352, A170, H⟩ := H
   replace H : (if t352 = true then (if t328 = t330 then ((bellmanref15_Same.f k t333 t337).bind fun t353 => (if t353 = true then (if t336 = t338 then ((bellmanref15_Is.f k t341 t346).bind fun t354 => (if t354 = true then (if t344 = t347 then (some (t345 == t348)) else (none)) else (none))) else (none)) else (none))) else (none)) else (none)) = some r := H
   have A17 := Aside0.mk A170
   clear A170
   by_cases c18 : t352 = true
   ·subst c18
    have H1 : (if t328 = t330 then ((bellmanref15_Same.f k t333 t337).bind fun t353 => (if t353 = true then (if t336 = t338 then ((bellmanref15_Is.f k t341 t346).bind fun t354 => (if t354 = true then (if t344 = t347 then (some (t345 == t348)) else (none)) else (none))) else (none)) else (none))) else (none)) = some r := by rw [if_pos rfl] at H; exact H
    clear H
    have H := H1
    clear H1
    by_cases c19 : t328 = t330
    ·rw [if_pos c19] at H
     have c19b0 : (t328 == t330) = true := beq_iff_eq.mpr c19
     have c19b1 : (t328 != t330) = false := bne_eq_false_iff_eq.mpr c19
     clear c19
     replace H := Option.bind_eq_some_iff.mp H
     obtain ⟨t353, A200, H⟩ := H
     replace H : (if t353 = true then (if t336 = t338 then ((bellmanref15_Is.f k t341 t346).bind fun t354 => (if t354 = true then (if t344 = t347 then (some (t345 == t348)) else (none)) else (none))) else (none)) else (none)) = some r := H
     have A20 := Aside0.mk A200
     clear A200
     by_cases c21 : t353 = true
     ·subst c21
      have H1 : (if t336 = t338 then ((bellmanref15_Is.f k t341 t346).bind fun t354 => (if t354 = true then (if t344 = t347 then (some (t345 == t348)) else (none)) else (none))) else (none)) = some r := by rw [if_pos rfl] at H; exact H
      clear H
      have H := H1
      clear H1
      by_cases c22 : t336 = t338
      ·rw [if_pos c22] at H
       have c22b0 : (t336 == t338) = true := beq_iff_eq.mpr c22
       have c22b1 : (t336 != t338) = false := bne_eq_false_iff_eq.mpr c22
       clear c22
       replace H := Option.bind_eq_some_iff.mp H
       obtain ⟨t354, A230, H⟩ := H
       replace H : (if t354 = true then (if t344 = t347 then (some (t345 == t348)) else (none)) else (none)) = some r := H
       have A23 := Aside0.mk A230
       clear A230
       by_cases c24 : t354 = true
       ·subst c24
        have H1 : (if t344 = t347 then (some (t345 == t348)) else (none)) = some r := by rw [if_pos rfl] at H; exact H
        clear H
        have H := H1
        clear H1
        by_cases c25 : t344 = t347
        ·rw [if_pos c25] at H
         have c25b0 : (t344 == t347) = true := beq_iff_eq.mpr c25
         have c25b1 : (t344 != t347) = false := bne_eq_false_iff_eq.mpr c25
         clear c25
         obtain rfl := Option.some.inj H
         go_enter Try.func9, Try.ntmps9
         go_wp2_with (first | ((with_reducible refine gate_callee (f := 35) rfl ?_); refine goesL_ (some 33) rfl rfl Try.func35 (by kernel_rfl) rfl #[.slice A0 l0.length c0, .int .i64 a1, .int .i64 a2] rfl (by (try simp only [List.map_toArray, List.map_cons, List.map_nil]); first | done | rfl | (simp only [List.length_drop, List.length_take]; rfl)) ?_; (with_reducible refine (due_Move.calls k _ _ l0 a1 a2 t325 t328 _ ?side1 ?side2 A9.out).mono ?_); (case side1 => repeat (first | exact HR0.out | (with_reducible refine Kd.C_alloc ?_ _) | (with_reducible refine Kd.C_drewN ?_ _) | (with_reducible refine Kd.C_drew ?_))); (case side2 => exact HC0.out); rintro e w26 ⟨v326, rfl, ho0, hb⟩; refine ⟨_, rfl, ?_⟩; have n0_ := Aside0.mk (Kd.V_lower (Kd.V_mono (ok' := fun k_ => True) ho0 (fun k_ hk_ => trivial)) (below_size (by repeat (first | (with_reducible first | exact HB.out | apply below_alloc | apply pw_below_drewN | apply below_drew1) | exact HB.out)))); have n1_ := Aside0.mk (below_step (by repeat (first | (with_reducible first | exact HB.out | apply below_alloc | apply pw_below_drewN | apply below_drew1) | exact HB.out)) hb); clear HB; have HO327 := n0_; have HB := n1_; clear n0_ n1_; (try clear hb); (try clear hb2); (try clear hk); (try clear hi); (try clear ho0)) | ((with_reducible refine gate_callee (f := 36) rfl ?_); refine goesL_ (some 40) rfl rfl Try.func36 (by kernel_rfl) rfl #[.slice A0 l0.length c0, .int .i64 a1, .int .i64 a2] rfl (by (try simp only [List.map_toArray, List.map_cons, List.map_nil]); first | done | rfl | (simp only [List.length_drop, List.length_take]; rfl)) ?_; (with_reducible refine (bellmanref16_Move.calls k _ _ l0 a1 a2 t329 t330 _ ?side1 ?side2 A10.out).mono ?_); (case side1 => repeat (first | exact (Kd.C_below HR0.out HB.out) | (with_reducible refine Kd.C_alloc ?_ _) | (with_reducible refine Kd.C_drewN ?_ _) | (with_reducible refine Kd.C_drew ?_))); (case side2 => exact HC0.out); rintro e w27 ⟨v331, rfl, ho0, hb⟩; refine ⟨_, rfl, ?_⟩; have n0_ := Aside0.mk (Kd.V_elder' (by (with_reducible repeat (first | apply Kd.V_alloc | apply Kd.V_drewN | apply Kd.V_drew)); exact HO327.out) (Kd.R_base ho0) hb); have n1_ := Aside0.mk (Kd.R_lower ho0 (below_size (by repeat (first | (with_reducible first | exact HB.out | apply below_alloc | apply pw_below_drewN | apply below_drew1) | exact HB.out)))); have n2_ := Aside0.mk (below_step (by repeat (first | (with_reducible first | exact HB.out | apply below_alloc | apply pw_below_drewN | apply below_drew1) | exact HB.out)) hb); clear HO327; clear HB; have HO327 := n0_; have HO332 := n1_; have HB := n2_; clear n0_ n1_ n2_; (try clear hb); (try clear hb2); (try clear hk); (try clear hi); (try clear ho0)) | ((with_reducible refine gate_callee (f := 37) rfl ?_); refine goesL_ (some 47) rfl rfl Try.func37 (by kernel_rfl) rfl #[.slice A0 l0.length c0, .int .u8 a3, .int .i64 a4] rfl (by (try simp only [List.map_toArray, List.map_cons, List.map_nil]); first | done | rfl | (simp only [List.length_drop, List.length_take]; rfl)) ?_; (with_reducible refine (due_Of.calls k _ _ l0 a3 a4 t333 t336 _ ?side1 ?side2 A11.out).mono ?_); (case side1 => repeat (first | exact (Kd.C_below HR0.out HB.out) | (with_reducible refine Kd.C_alloc ?_ _) | (with_reducible refine Kd.C_drewN ?_ _) | (with_reducible refine Kd.C_drew ?_))); (case side2 => exact HC0.out); rintro e w28 ⟨v334, rfl, ho0, hb⟩; refine ⟨_, rfl, ?_⟩; have n0_ := Aside0.mk (Kd.V_below (by (with_reducible repeat (first | apply Kd.V_alloc | apply Kd.V_drewN | apply Kd.V_drew)); exact HO327.out) hb); have n1_ := Aside0.mk (Kd.R_below (by (with_reducible repeat (first | apply Kd.R_alloc | apply Kd.R_drewN | apply Kd.R_drew)); exact HO332.out) hb); have n2_ := Aside0.mk (Kd.V_lower (Kd.V_mono (ok' := fun k_ => some k_ ≠ (v331 : Value).ownBlock) ho0 (fun k_ hk_ => (Kd.fresh' (Kd.R_lt (by (with_reducible repeat (first | apply Kd.R_alloc | apply Kd.R_drewN | apply Kd.R_drew)); exact HO332.out)) k_ hk_))) (below_size (by repeat (first | (with_reducible first | exact HB.out | apply below_alloc | apply pw_below_drewN | apply below_drew1) | exact HB.out)))); have n3_ := Aside0.mk (below_step (by repeat (first | (with_reducible first | exact HB.out | apply below_alloc | apply pw_below_drewN | apply below_drew1) | exact HB.out)) hb); clear HO327; clear HO332; clear HB; have HO327 := n0_; have HO332 := n1_; have HO335 := n2_; have HB := n3_; clear n0_ n1_ n2_ n3_; (try clear hb); (try clear hb2); (try clear hk); (try clear hi); (try clear ho0)) | ((with_reducible refine gate_callee (f := 38) rfl ?_); refine goesL_ (some 54) rfl rfl Try.func38 (by kernel_rfl) rfl #[.slice A0 l0.length c0, .int .u8 a3, .int .i64 a4] rfl (by (try simp only [List.map_toArray, List.map_cons, List.map_nil]); first | done | rfl | (simp only [List.length_drop, List.length_take]; rfl)) ?_; (with_reducible refine (bellmanref16_Of.calls k _ _ l0 a3 a4 t337 t338 _ ?side1 ?side2 A12.out).mono ?_); (case side1 => repeat (first | exact (Kd.C_below HR0.out HB.out) | (with_reducible refine Kd.C_alloc ?_ _) | (with_reducible refine Kd.C_drewN ?_ _) | (with_reducible refine Kd.C_drew ?_))); (case side2 => exact HC0.out); rintro e w29 ⟨v339, rfl, ho0, hb⟩; refine ⟨_, rfl, ?_⟩; have n0_ := Aside0.mk (Kd.V_elder' (by (with_reducible repeat (first | apply Kd.V_alloc | apply Kd.V_drewN | apply Kd.V_drew)); exact HO327.out) (Kd.R_base ho0) hb); have n1_ := Aside0.mk (Kd.R_elder' (by (with_reducible repeat (first | apply Kd.R_alloc | apply Kd.R_drewN | apply Kd.R_drew)); exact HO332.out) (Kd.R_base ho0) hb); have n2_ := Aside0.mk (Kd.V_elder' (by (with_reducible repeat (first | apply Kd.V_alloc | apply Kd.V_drewN | apply Kd.V_drew)); exact HO335.out) (Kd.R_base ho0) hb); have n3_ := Aside0.mk (Kd.R_lower (Kd.R_new' ho0 (Kd.R_lt (by (with_reducible repeat (first | apply Kd.R_alloc | apply Kd.R_drewN | apply Kd.R_drew)); exact HO332.out))) (below_size (by repeat (first | (with_reducible first | exact HB.out | apply below_alloc | apply pw_below_drewN | apply below_drew1) | exact HB.out)))); have n4_ := Aside0.mk (below_step (by repeat (first | (with_reducible first | exact HB.out | apply below_alloc | apply pw_below_drewN | apply below_drew1) | exact HB.out)) hb); clear HO327; clear HO332; clear HO335; clear HB; have HO327 := n0_; have HO332 := n1_; have HO335 := n2_; have HO340 := n3_; have HB := n4_; clear n0_ n1_ n2_ n3_ n4_; (try clear hb); (try clear hb2); (try clear hk); (try clear hi); (try clear ho0)) | ((with_reducible refine gate_callee (f := 39) rfl ?_); refine goesL_ (some 61) rfl rfl Try.func39 (by kernel_rfl) rfl #[.slice A0 l0.length c0, .int .u8 a3, .int .i64 a4] rfl (by (try simp only [List.map_toArray, List.map_cons, List.map_nil]); first | done | rfl | (simp only [List.length_drop, List.length_take]; rfl)) ?_; (with_reducible refine (due_Clear.calls k _ _ l0 a3 a4 t341 t344 t345 _ ?side1 ?side2 A13.out).mono ?_); (case side1 => repeat (first | exact (Kd.C_below HR0.out HB.out) | (with_reducible refine Kd.C_alloc ?_ _) | (with_reducible refine Kd.C_drewN ?_ _) | (with_reducible refine Kd.C_drew ?_))); (case side2 => exact HC0.out); rintro e w30 ⟨v342, rfl, ho0, hb⟩; refine ⟨_, rfl, ?_⟩; have n0_ := Aside0.mk (Kd.V_below (by (with_reducible repeat (first | apply Kd.V_alloc | apply Kd.V_drewN | apply Kd.V_drew)); exact HO327.out) hb); have n1_ := Aside0.mk (Kd.R_below (by (with_reducible repeat (first | apply Kd.R_alloc | apply Kd.R_drewN | apply Kd.R_drew)); exact HO332.out) hb); have n2_ := Aside0.mk (Kd.V_below (by (with_reducible repeat (first | apply Kd.V_alloc | apply Kd.V_drewN | apply Kd.V_drew)); exact HO335.out) hb); have n3_ := Aside0.mk (Kd.R_below (by (with_reducible repeat (first | apply Kd.R_alloc | apply Kd.R_drewN | apply Kd.R_drew)); exact HO340.out) hb); have n4_ := Aside0.mk (Kd.V_lower (Kd.V_mono (ok' := fun k_ => some k_ ≠ (v331 : Value).ownBlock ∧ some k_ ≠ (v339 : Value).ownBlock) ho0 (fun k_ hk_ => ⟨(Kd.fresh' (Kd.R_lt (by (with_reducible repeat (first | apply Kd.R_alloc | apply Kd.R_drewN | apply Kd.R_drew)); exact HO332.out)) k_ hk_), (Kd.fresh' (Kd.R_lt (by (with_reducible repeat (first | apply Kd.R_alloc | apply Kd.R_drewN | apply Kd.R_drew)); exact HO340.out)) k_ hk_)⟩)) (below_size (by repeat (first | (with_reducible first | exact HB.out | apply below_alloc | apply pw_below_drewN | apply below_drew1) | exact HB.out)))); have n5_ := Aside0.mk (below_step (by repeat (first | (with_reducible first | exact HB.out | apply below_alloc | apply pw_below_drewN | apply below_drew1) | exact HB.out)) hb); clear HO327; clear HO332; clear HO335; clear HO340; clear HB; have HO327 := n0_; have HO332 := n1_; have HO335 := n2_; have HO340 := n3_; have HO343 := n4_; have HB := n5_; clear n0_ n1_ n2_ n3_ n4_ n5_; (try clear hb); (try clear hb2); (try clear hk); (try clear hi); (try clear ho0)) | ((with_reducible refine gate_callee (f := 40) rfl ?_); refine goesL_ (some 69) rfl rfl Try.func40 (by kernel_rfl) rfl #[.slice A0 l0.length c0, .int .u8 a3, .int .i64 a4] rfl (by (try simp only [List.map_toArray, List.map_cons, List.map_nil]); first | done | rfl | (simp only [List.length_drop, List.length_take]; rfl)) ?_; (with_reducible refine (bellmanref16_Clear.calls k _ _ l0 a3 a4 t346 t347 t348 _ ?side1 ?side2 A14.out).mono ?_); (case side1 => repeat (first | exact (Kd.C_below HR0.out HB.out) | (with_reducible refine Kd.C_alloc ?_ _) | (with_reducible refine Kd.C_drewN ?_ _) | (with_reducible refine Kd.C_drew ?_))); (case side2 => exact HC0.out); rintro e w31 ⟨v349, rfl, ho0, hb⟩; refine ⟨_, rfl, ?_⟩; have n0_ := Aside0.mk (Kd.V_elder' (by (with_reducible repeat (first | apply Kd.V_alloc | apply Kd.V_drewN | apply Kd.V_drew)); exact HO327.out) (Kd.R_base ho0) hb); have n1_ := Aside0.mk (Kd.R_elder' (by (with_reducible repeat (first | apply Kd.R_alloc | apply Kd.R_drewN | apply Kd.R_drew)); exact HO332.out) (Kd.R_base ho0) hb); have n2_ := Aside0.mk (Kd.V_elder' (by (with_reducible repeat (first | apply Kd.V_alloc | apply Kd.V_drewN | apply Kd.V_drew)); exact HO335.out) (Kd.R_base ho0) hb); have n3_ := Aside0.mk (Kd.R_elder' (by (with_reducible repeat (first | apply Kd.R_alloc | apply Kd.R_drewN | apply Kd.R_drew)); exact HO340.out) (Kd.R_base ho0) hb); have n4_ := Aside0.mk (Kd.V_elder' (by (with_reducible repeat (first | apply Kd.V_alloc | apply Kd.V_drewN | apply Kd.V_drew)); exact HO343.out) (Kd.R_base ho0) hb); have n5_ := Aside0.mk (Kd.R_lower (Kd.R_new' (Kd.R_new' ho0 (Kd.R_lt (by (with_reducible repeat (first | apply Kd.R_alloc | apply Kd.R_drewN | apply Kd.R_drew)); exact HO332.out))) (Kd.R_lt (by (with_reducible repeat (first | apply Kd.R_alloc | apply Kd.R_drewN | apply Kd.R_drew)); exact HO340.out))) (below_size (by repeat (first | (with_reducible first | exact HB.out | apply below_alloc | apply pw_below_drewN | apply below_drew1) | exact HB.out)))); have n6_ := Aside0.mk (below_step (by repeat (first | (with_reducible first | exact HB.out | apply below_alloc | apply pw_below_drewN | apply below_drew1) | exact HB.out)) hb); clear HO327; clear HO332; clear HO335; clear HO340; clear HO343; clear HB; have HO327 := n0_; have HO332 := n1_; have HO335 := n2_; have HO340 := n3_; have HO343 := n4_; have HO350 := n5_; have HB := n6_; clear n0_ n1_ n2_ n3_ n4_ n5_ n6_; (try clear hb); (try clear hb2); (try clear hk); (try clear hi); (try clear ho0)) | ((with_reducible refine gate_callee (f := 29) rfl ?_); refine goesL_ (some 73) rfl rfl Try.func29 (by kernel_rfl) rfl #[] rfl (by (try simp only [List.map_toArray, List.map_cons, List.map_nil]); first | done | rfl | (simp only [List.length_drop, List.length_take]; rfl)) ?_; (with_reducible refine (bellmanlaw16_lives.calls k  true _ A15.out).mono ?_); rintro e w32 ⟨rfl, hb⟩; refine ⟨_, rfl, ?_⟩; have n0_ := Aside0.mk (Kd.V_below (by (with_reducible repeat (first | apply Kd.V_alloc | apply Kd.V_drewN | apply Kd.V_drew)); exact HO327.out) hb); have n1_ := Aside0.mk (Kd.R_below (by (with_reducible repeat (first | apply Kd.R_alloc | apply Kd.R_drewN | apply Kd.R_drew)); exact HO332.out) hb); have n2_ := Aside0.mk (Kd.V_below (by (with_reducible repeat (first | apply Kd.V_alloc | apply Kd.V_drewN | apply Kd.V_drew)); exact HO335.out) hb); have n3_ := Aside0.mk (Kd.R_below (by (with_reducible repeat (first | apply Kd.R_alloc | apply Kd.R_drewN | apply Kd.R_drew)); exact HO340.out) hb); have n4_ := Aside0.mk (Kd.V_below (by (with_reducible repeat (first | apply Kd.V_alloc | apply Kd.V_drewN | apply Kd.V_drew)); exact HO343.out) hb); have n5_ := Aside0.mk (Kd.R_below (by (with_reducible repeat (first | apply Kd.R_alloc | apply Kd.R_drewN | apply Kd.R_drew)); exact HO350.out) hb); have n6_ := Aside0.mk (below_step (by repeat (first | (with_reducible first | exact HB.out | apply below_alloc | apply pw_below_drewN | apply below_drew1) | exact HB.out)) hb); clear HO327; clear HO332; clear HO335; clear HO340; clear HO343; clear HO350; clear HB; have HO327 := n0_; have HO332 := n1_; have HO335 := n2_; have HO340 := n3_; have HO343 := n4_; have HO350 := n5_; have HB := n6_; clear n0_ n1_ n2_ n3_ n4_ n5_ n6_; (try clear hb); (try clear hb2); (try clear hk); (try clear hi); obtain ⟨Ao33, co33, eo33⟩ := Kd.V_slice HO327.out; subst eo33; obtain ⟨Ao34, co34, eo34⟩ := Kd.R_slice HO332.out; subst eo34) | (go_at_call 22; (with_reducible refine (bellmanref15_Is.calls k _ _ t325 _ _ t329 true _ ?side1 ?side2 ?side3 ?side4 A17.out).mono ?_); (case side1 => repeat (first | exact (Kd.V_reads' HO327.out).2.2 | (with_reducible refine Kd.C_alloc ?_ _) | (with_reducible refine Kd.C_drewN ?_ _) | (with_reducible refine Kd.C_drew ?_))); (case side2 => exact (Kd.V_reads' HO327.out).2.1); (case side3 => repeat (first | exact (Kd.R_reads' HO332.out).2.2 | (with_reducible refine Kd.C_alloc ?_ _) | (with_reducible refine Kd.C_drewN ?_ _) | (with_reducible refine Kd.C_drew ?_))); (case side4 => exact (Kd.R_reads' HO332.out).2.1); rintro e w35 ⟨rfl, hb⟩; have n0_ := Aside0.mk (Kd.V_below (by (with_reducible repeat (first | apply Kd.V_alloc | apply Kd.V_drewN | apply Kd.V_drew)); exact HO327.out) hb); have n1_ := Aside0.mk (Kd.R_below (by (with_reducible repeat (first | apply Kd.R_alloc | apply Kd.R_drewN | apply Kd.R_drew)); exact HO332.out) hb); have n2_ := Aside0.mk (Kd.V_below (by (with_reducible repeat (first | apply Kd.V_alloc | apply Kd.V_drewN | apply Kd.V_drew)); exact HO335.out) hb); have n3_ := Aside0.mk (Kd.R_below (by (with_reducible repeat (first | apply Kd.R_alloc | apply Kd.R_drewN | apply Kd.R_drew)); exact HO340.out) hb); have n4_ := Aside0.mk (Kd.V_below (by (with_reducible repeat (first | apply Kd.V_alloc | apply Kd.V_drewN | apply Kd.V_drew)); exact HO343.out) hb); have n5_ := Aside0.mk (Kd.R_below (by (with_reducible repeat (first | apply Kd.R_alloc | apply Kd.R_drewN | apply Kd.R_drew)); exact HO350.out) hb); have n6_ := Aside0.mk (below_step (by repeat (first | (with_reducible first | exact HB.out | apply below_alloc | apply pw_below_drewN | apply below_drew1) | exact HB.out)) hb); clear HO327; clear HO332; clear HO335; clear HO340; clear HO343; clear HO350; clear HB; have HO327 := n0_; have HO332 := n1_; have HO335 := n2_; have HO340 := n3_; have HO343 := n4_; have HO350 := n5_; have HB := n6_; clear n0_ n1_ n2_ n3_ n4_ n5_ n6_; (try clear hb); (try clear hb2); (try clear hk); (try clear hi); obtain ⟨Ao36, co36, eo36⟩ := Kd.V_slice HO335.out; subst eo36; obtain ⟨Ao37, co37, eo37⟩ := Kd.R_slice HO340.out; subst eo37) | (go_at_call 23; (with_reducible refine (bellmanref15_Same.calls k _ _ t333 _ _ t337 true _ ?side1 ?side2 ?side3 ?side4 A20.out).mono ?_); (case side1 => repeat (first | exact (Kd.V_reads' HO335.out).2.2 | (with_reducible refine Kd.C_alloc ?_ _) | (with_reducible refine Kd.C_drewN ?_ _) | (with_reducible refine Kd.C_drew ?_))); (case side2 => exact (Kd.V_reads' HO335.out).2.1); (case side3 => repeat (first | exact (Kd.R_reads' HO340.out).2.2 | (with_reducible refine Kd.C_alloc ?_ _) | (with_reducible refine Kd.C_drewN ?_ _) | (with_reducible refine Kd.C_drew ?_))); (case side4 => exact (Kd.R_reads' HO340.out).2.1); rintro e w' ⟨rfl, ⟨nd, rfl⟩⟩; obtain ⟨Ao38, co38, eo38⟩ := Kd.V_slice HO343.out; subst eo38; obtain ⟨Ao39, co39, eo39⟩ := Kd.R_slice HO350.out; subst eo39) | (go_at_call 22; (with_reducible refine (bellmanref15_Is.calls k _ _ t341 _ _ t346 true _ ?side1 ?side2 ?side3 ?side4 A23.out).mono ?_); (case side1 => repeat (first | exact (Kd.V_reads' HO343.out).2.2 | (with_reducible refine Kd.C_alloc ?_ _) | (with_reducible refine Kd.C_drewN ?_ _) | (with_reducible refine Kd.C_drew ?_))); (case side2 => exact (Kd.V_reads' HO343.out).2.1); (case side3 => repeat (first | exact (Kd.R_reads' HO350.out).2.2 | (with_reducible refine Kd.C_alloc ?_ _) | (with_reducible refine Kd.C_drewN ?_ _) | (with_reducible refine Kd.C_drew ?_))); (case side4 => exact (Kd.R_reads' HO350.out).2.1); rintro e w40 ⟨rfl, hb⟩; have n0_ := Aside0.mk (Kd.V_below (by (with_reducible repeat (first | apply Kd.V_alloc | apply Kd.V_drewN | apply Kd.V_drew)); exact HO327.out) hb); have n1_ := Aside0.mk (Kd.R_below (by (with_reducible repeat (first | apply Kd.R_alloc | apply Kd.R_drewN | apply Kd.R_drew)); exact HO332.out) hb); have n2_ := Aside0.mk (Kd.V_below (by (with_reducible repeat (first | apply Kd.V_alloc | apply Kd.V_drewN | apply Kd.V_drew)); exact HO335.out) hb); have n3_ := Aside0.mk (Kd.R_below (by (with_reducible repeat (first | apply Kd.R_alloc | apply Kd.R_drewN | apply Kd.R_drew)); exact HO340.out) hb); have n4_ := Aside0.mk (Kd.V_below (by (with_reducible repeat (first | apply Kd.V_alloc | apply Kd.V_drewN | apply Kd.V_drew)); exact HO343.out) hb); have n5_ := Aside0.mk (Kd.R_below (by (with_reducible repeat (first | apply Kd.R_alloc | apply Kd.R_drewN | apply Kd.R_drew)); exact HO350.out) hb); have n6_ := Aside0.mk (below_step (by repeat (first | (with_reducible first | exact HB.out | apply below_alloc | apply pw_below_drewN | apply below_drew1) | exact HB.out)) hb); clear HO327; clear HO332; clear HO335; clear HO340; clear HO343; clear HO350; clear HB; have HO327 := n0_; have HO332 := n1_; have HO335 := n2_; have HO340 := n3_; have HO343 := n4_; have HO350 := n5_; have HB := n6_; clear n0_ n1_ n2_ n3_ n4_ n5_ n6_; (try clear hb); (try clear hb2); (try clear hk); (try clear hi)))
         go_ret
         exact ⟨by first | rfl | (simp [errW_none, errW_some] <;> rfl) | (simp [*, errW_none, errW_some] <;> rfl), by repeat (first | (with_reducible first | exact HB.out | apply below_alloc | apply pw_below_drewN | apply below_drew1) | exact HB.out)⟩
        ·rw [if_neg c25] at H
         exact absurd H (by simp)
       ·replace c24 := Bool.eq_false_iff.mpr c24
        subst c24
        have H1 : (none) = some r := by rw [if_neg (show ¬ (false = true) by decide)] at H; exact H
        clear H
        have H := H1
        clear H1
        exact absurd H (by simp)
      ·rw [if_neg c22] at H
       exact absurd H (by simp)
     ·replace c21 := Bool.eq_false_iff.mpr c21
      subst c21
      have H1 : (none) = some r := by rw [if_neg (show ¬ (false = true) by decide)] at H; exact H
      clear H
      have H := H1
      clear H1
      exact absurd H (by simp)
    ·rw [if_neg c19] at H
     exact absurd H (by simp)
   ·replace c18 := Bool.eq_false_iff.mpr c18
    subst c18
    have H1 : (none) = some r := by rw [if_neg (show ¬ (false = true) by decide)] at H; exact H
    clear H
    have H := H1
    clear H1
    exact absurd H (by simp)
  ·replace c16 := Bool.eq_false_iff.mpr c16
   subst c16
   have H1 : (none) = some r := by rw [if_neg (show ¬ (false = true) by decide)] at H; exact H
   clear H
   have H := H1
   clear H1
   exact absurd H (by simp)

end Go.Proofs.Ytlpbolkbdcgmnaa.XD
-- squeezed
