-- by px.py, a program of this session, over the kit's printer: functions given by hand stand beside printed ones. Lean checks all of it.
import Derived.Test.YtlnadfhhgcpkpaaXW0
import Derived.Test.YtlnadfhhgcpkpaaXW4
import Derived.Test.YtlnadfhhgcpkpaaXW6
import Derived.Test.YtlnadfhhgcpkpaaXW7
import Derived.Test.YtlnadfhhgcpkpaaXW8
import Derived.Test.YtlnadfhhgcpkpaaXW9
import Derived.Test.YtlnadfhhgcpkpaaXW10
import Derived.Test.YtlnadfhhgcpkpaaXW11
import Derived.Test.YtlnadfhhgcpkpaaXW12
import Derived.Test.YtlnadfhhgcpkpaaXW13
import Derived.Test.YtlnadfhhgcpkpaaXW17
namespace Go.Proofs.Ytlnadfhhgcpkpaa.XW
open Go.RowKit Go.Proofs.YtlnadfhhgcpkpaaW.PrintWords Go.Proofs.YtlnadfhhgcpkpaaW.PrintLast Go.Proofs.YtlnadfhhgcpkpaaW.PrintMore
attribute [local go_sem] max2_int min2_int max_two min_two max_three min_three max_four min_four   -- for this text's walks alone
set_option linter.unusedVariables false
set_option linter.unusedSimpArgs false

/-! ### bellmanlaw07_WeekMakes: function 3 -/
def bellmanlaw07_WeekMakes.f (k : Nat) (l0 : List (S38)) (l1 : List (S38)) (a2 : Int) (a3 : Bool) : Option (Bool) := (week_Make.f k l0).bind fun bt306 => ((bellmanref07_Make.f k l0).bind fun bt310 => ((week_Has.f k l1 a2).bind fun bt314 => ((bellmanref07_Has.f k l1 a2).bind fun bt316 => ((week_Sum.f k l1).bind fun bt318 => ((bellmanref07_Sum.f k l1).bind fun bt320 => ((week_Next.f k l1 a2 a3).bind fun bt322 => ((bellmanref07_Next.f k l1 a2 a3).bind fun bt324 => ((bellmanlaw07_lives.f k).bind fun t326 => (if t326 = true then ((bellmanref07_Same.f k bt306.1 bt310.1).bind fun t327 => (if t327 = true then (if bt306.2 = bt310.2 then (if (bt314.1 == bt316.1) = true then (if bt314.2 = bt316.2 then (if bt318.1 = bt320.1 then (if bt318.2 = bt320.2 then (if bt322.1 = bt324.1 then (if bt322.2 = bt324.2 then ((week_Check.f k l1).bind fun t328 => ((bellmanref07_Check.f k l1).bind fun t329 => (some (t328 == t329)))) else (none)) else (none)) else (none)) else (none)) else (none)) else (none)) else (none)) else (none))) else (none))))))))))
theorem bellmanlaw07_WeekMakes.mono : ∀ a0 a1 a2 a3 k, LeO (bellmanlaw07_WeekMakes.f k a0 a1 a2 a3) (bellmanlaw07_WeekMakes.f (k + 1) a0 a1 a2 a3) := by
 intro a0 a1 a2 a3 k
 unfold bellmanlaw07_WeekMakes.f
 repeat' first
   | (with_reducible exact bellmanlaw07_lives.mono _)
   | (with_reducible exact bellmanref07_Check.mono _ _)
   | (with_reducible exact bellmanref07_Has.mono _ _ _)
   | (with_reducible exact bellmanref07_Make.mono _ _)
   | (with_reducible exact bellmanref07_Next.mono _ _ _ _)
   | (with_reducible exact bellmanref07_Same.mono _ _ _)
   | (with_reducible exact bellmanref07_Sum.mono _ _)
   | (with_reducible exact week_Check.mono _ _)
   | (with_reducible exact week_Has.mono _ _ _)
   | (with_reducible exact week_Make.mono _ _)
   | (with_reducible exact week_Next.mono _ _ _ _)
   | (with_reducible exact week_Sum.mono _ _)
   | (with_reducible exact LeO.refl _)
   | (with_reducible exact LeO.none _)
   | (with_reducible refine LeO.ite ?_ ?_)
   | (with_reducible refine LeO.bind ?_ (fun _ => ?_))
   | exact bellmanlaw07_lives.mono _
   | exact bellmanref07_Check.mono _ _
   | exact bellmanref07_Has.mono _ _ _
   | exact bellmanref07_Make.mono _ _
   | exact bellmanref07_Next.mono _ _ _ _
   | exact bellmanref07_Same.mono _ _ _
   | exact bellmanref07_Sum.mono _ _
   | exact week_Check.mono _ _
   | exact week_Has.mono _ _ _
   | exact week_Make.mono _ _
   | exact week_Next.mono _ _ _ _
   | exact week_Sum.mono _ _
   | exact LeO.none _
   | refine LeO.ite ?_ ?_
   | refine LeO.bind ?_ (fun _ => ?_)
set_option maxHeartbeats 8000000 in
set_option maxRecDepth 100000 in
theorem bellmanlaw07_WeekMakes.calls (k : Nat) (A0 : Option Addr) (c0 : Nat) (l0 : List (S38)) (A1 : Option Addr) (c1 : Nat) (l1 : List (S38)) (a2 : Int) (a3 : Bool) (r : Bool) (w : World) (hr0 : Kd.C k38 w A0 l0.length l0) (hc0 : l0.length ≤ c0) (hr1 : Kd.C k38 w A1 l1.length l1) (hc1 : l1.length ≤ c1) (h : bellmanlaw07_WeekMakes.f k l0 l1 a2 a3 = some r) :
  Calls Try.prog 3 #[.slice A0 l0.length c0, .slice A1 l1.length c1, .int .i64 a2, .bool a3] w fun e w' => e = .returned (.bool r) ∧ Below w.heap.size w w' := by
 have HR0 := Aside0.mk hr0
 have HC0 := Aside0.mk hc0
 clear hr0 hc0
 have HR1 := Aside0.mk hr1
 have HC1 := Aside0.mk hc1
 clear hr1 hc1
 have HB := Aside0.mk (Below.refl w.heap.size w)
 have H : ((week_Make.f k l0).bind fun bt306 => ((bellmanref07_Make.f k l0).bind fun bt310 => ((week_Has.f k l1 a2).bind fun bt314 => ((bellmanref07_Has.f k l1 a2).bind fun bt316 => ((week_Sum.f k l1).bind fun bt318 => ((bellmanref07_Sum.f k l1).bind fun bt320 => ((week_Next.f k l1 a2 a3).bind fun bt322 => ((bellmanref07_Next.f k l1 a2 a3).bind fun bt324 => ((bellmanlaw07_lives.f k).bind fun t326 => (if t326 = true then ((bellmanref07_Same.f k bt306.1 bt310.1).bind fun t327 => (if t327 = true then (if bt306.2 = bt310.2 then (if (bt314.1 == bt316.1) = true then (if bt314.2 = bt316.2 then (if bt318.1 = bt320.1 then (if bt318.2 = bt320.2 then (if bt322.1 = bt324.1 then (if bt322.2 = bt324.2 then ((week_Check.f k l1).bind fun t328 => ((bellmanref07_Check.f k l1).bind fun t329 => (some (t328 == t329)))) else (none)) else (none)) else (none)) else (none)) else (none)) else (none)) else (none)) else (none))) else (none))))))))))) = some r := h
 clear h
 replace H := Option.bind_eq_some_iff.mp H
 obtain ⟨⟨t306, t307⟩, A50, H⟩ := H
 replace H : ((bellmanref07_Make.f k l0).bind fun bt310 => ((week_Has.f k l1 a2).bind fun bt314 => ((bellmanref07_Has.f k l1 a2).bind fun bt316 => ((week_Sum.f k l1).bind fun bt318 => ((bellmanref07_Sum.f k l1).bind fun bt320 => ((week_Next.f k l1 a2 a3).bind fun bt322 => ((bellmanref07_Next.f k l1 a2 a3).bind fun bt324 => ((bellmanlaw07_lives.f k).bind fun t326 => (if t326 = true then ((bellmanref07_Same.f k t306 bt310.1).bind fun t327 => (if t327 = true then (if t307 = bt310.2 then (if (bt314.1 == bt316.1) = true then (if bt314.2 = bt316.2 then (if bt318.1 = bt320.1 then (if bt318.2 = bt320.2 then (if bt322.1 = bt324.1 then (if bt322.2 = bt324.2 then ((week_Check.f k l1).bind fun t328 => ((bellmanref07_Check.f k l1).bind fun t329 => (some (t328 == t329)))) else (none)) else (none)) else (none)) else (none)) else (none)) else (none)) else (none)) else (none))) else (none)))))))))) = some r := H
 have A5 := Aside0.mk A50
 clear A50
 replace H := Option.bind_eq_some_iff.mp H
 obtain ⟨⟨t310, t311⟩, A60, H⟩ := H
 replace H : ((week_Has.f k l1 a2).bind fun bt314 => ((bellmanref07_Has.f k l1 a2).bind fun bt316 => ((week_Sum.f k l1).bind fun bt318 => ((bellmanref07_Sum.f k l1).bind fun bt320 => ((week_Next.f k l1 a2 a3).bind fun bt322 => ((bellmanref07_Next.f k l1 a2 a3).bind fun bt324 => ((bellmanlaw07_lives.f k).bind fun t326 => (if t326 = true then ((bellmanref07_Same.f k t306 t310).bind fun t327 => (if t327 = true then (if t307 = t311 then (if (bt314.1 == bt316.1) = true then (if bt314.2 = bt316.2 then (if bt318.1 = bt320.1 then (if bt318.2 = bt320.2 then (if bt322.1 = bt324.1 then (if bt322.2 = bt324.2 then ((week_Check.f k l1).bind fun t328 => ((bellmanref07_Check.f k l1).bind fun t329 => (some (t328 == t329)))) else (none)) else (none)) else (none)) else (none)) else (none)) else (none)) else (none)) else (none))) else (none))))))))) = some r := H
 have A6 := Aside0.mk A60
 clear A60
 replace H := Option.bind_eq_some_iff.mp H
 obtain ⟨⟨t314, t315⟩, A70, H⟩ := H
 replace H : ((bellmanref07_Has.f k l1 a2).bind fun bt316 => ((week_Sum.f k l1).bind fun bt318 => ((bellmanref07_Sum.f k l1).bind fun bt320 => ((week_Next.f k l1 a2 a3).bind fun bt322 => ((bellmanref07_Next.f k l1 a2 a3).bind fun bt324 => ((bellmanlaw07_lives.f k).bind fun t326 => (if t326 = true then ((bellmanref07_Same.f k t306 t310).bind fun t327 => (if t327 = true then (if t307 = t311 then (if (t314 == bt316.1) = true then (if t315 = bt316.2 then (if bt318.1 = bt320.1 then (if bt318.2 = bt320.2 then (if bt322.1 = bt324.1 then (if bt322.2 = bt324.2 then ((week_Check.f k l1).bind fun t328 => ((bellmanref07_Check.f k l1).bind fun t329 => (some (t328 == t329)))) else (none)) else (none)) else (none)) else (none)) else (none)) else (none)) else (none)) else (none))) else (none)))))))) = some r := H
 have A7 := Aside0.mk A70
 clear A70
 replace H := Option.bind_eq_some_iff.mp H
 obtain ⟨⟨t316, t317⟩, A80, H⟩ := H
 replace H : ((week_Sum.f k l1).bind fun bt318 => ((bellmanref07_Sum.f k l1).bind fun bt320 => ((week_Next.f k l1 a2 a3).bind fun bt322 => ((bellmanref07_Next.f k l1 a2 a3).bind fun bt324 => ((bellmanlaw07_lives.f k).bind fun t326 => (if t326 = true then ((bellmanref07_Same.f k t306 t310).bind fun t327 => (if t327 = true then (if t307 = t311 then (if (t314 == t316) = true then (if t315 = t317 then (if bt318.1 = bt320.1 then (if bt318.2 = bt320.2 then (if bt322.1 = bt324.1 then (if bt322.2 = bt324.2 then ((week_Check.f k l1).bind fun t328 => ((bellmanref07_Check.f k l1).bind fun t329 => (some (t328 == t329)))) else (none)) else (none)) else (none)) else (none)) else (none)) else (none)) else (none)) else (none))) else (none))))))) = some r := H
 have A8 := Aside0.mk A80
 clear A80
 replace H := Option.bind_eq_some_iff.mp H
 obtain ⟨⟨t318, t319⟩, A90, H⟩ := H
 replace H : ((bellmanref07_Sum.f k l1).bind fun bt320 => ((week_Next.f k l1 a2 a3).bind fun bt322 => ((bellmanref07_Next.f k l1 a2 a3).bind fun bt324 => ((bellmanlaw07_lives.f k).bind fun t326 => (if t326 = true then ((bellmanref07_Same.f k t306 t310).bind fun t327 => (if t327 = true then (if t307 = t311 then (if (t314 == t316) = true then (if t315 = t317 then (if t318 = bt320.1 then (if t319 = bt320.2 then (if bt322.1 = bt324.1 then (if bt322.2 = bt324.2 then ((week_Check.f k l1).bind fun t328 => ((bellmanref07_Check.f k l1).bind fun t329 => (some (t328 == t329)))) else (none)) else (none)) else (none)) else (none)) else (none)) else (none)) else (none)) else (none))) else (none)))))) = some r := H
 have A9 := Aside0.mk A90
 clear A90
 replace H := Option.bind_eq_some_iff.mp H
 obtain ⟨⟨t320, t321⟩, A100, H⟩ := H
 replace H : ((week_Next.f k l1 a2 a3).bind fun bt322 => ((bellmanref07_Next.f k l1 a2 a3).bind fun bt324 => ((bellmanlaw07_lives.f k).bind fun t326 => (if t326 = true then ((bellmanref07_Same.f k t306 t310).bind fun t327 => (if t327 = true then (if t307 = t311 then (if (t314 == t316) = true then (if t315 = t317 then (if t318 = t320 then (if t319 = t321 then (if bt322.1 = bt324.1 then (if bt322.2 = bt324.2 then ((week_Check.f k l1).bind fun t328 => ((bellmanref07_Check.f k l1).bind fun t329 => (some (t328 == t329)))) else (none)) else (none)) else (none)) else (none)) else (none)) else (none)) else (none)) else (none))) else (none))))) = some r := H
 have A10 := Aside0.mk A100
 clear A100
 replace H := Option.bind_eq_some_iff.mp H
 obtain ⟨⟨t322, t323⟩, A110, H⟩ := H
 replace H : ((bellmanref07_Next.f k l1 a2 a3).bind fun bt324 => ((bellmanlaw07_lives.f k).bind fun t326 => (if t326 = true then ((bellmanref07_Same.f k t306 t310).bind fun t327 => (if t327 = true then (if t307 = t311 then (if (t314 == t316) = true then (if t315 = t317 then (if t318 = t320 then (if t319 = t321 then (if t322 = bt324.1 then (if t323 = bt324.2 then ((week_Check.f k l1).bind fun t328 => ((bellmanref07_Check.f k l1).bind fun t329 => (some (t328 == t329)))) else (none)) else (none)) else (none)) else (none)) else (none)) else (none)) else (none)) else (none))) else (none)))) = some r := H
 have A11 := Aside0.mk A110
 clear A110
 replace H := Option.bind_eq_some_iff.mp H
 obtain ⟨⟨t324, t325⟩, A120, H⟩ := H
 replace H : ((bellmanlaw07_lives.f k).bind fun t326 => (if t326 = true then ((bellmanref07_Same.f k t306 t310).bind fun t327 => (if t327 = true then (if t307 = t311 then (if (t314 == t316) = true then (if t315 = t317 then (if t318 = t320 then (if t319 = t321 then (if t322 = t324 then (if t323 = t325 then ((week_Check.f k l1).bind fun t328 => ((bellmanref07_Check.f k l1).bind fun t329 => (some (t328 == t329)))) else (none)) else (none)) else (none)) else (none)) else (none)) else (none)) else (none)) else (none))) else (none))) = some r := H
 have A12 := Aside0.mk A120
 clear A120
 replace H := Option.bind_eq_some_iff.mp H
 obtain ⟨t326, A130, H⟩ := H
 replace H : (if t326 = true then ((bellmanref07_Same.f k t306 t310).bind fun t327 => (if t327 = true then (if t307 = t311 then (if (t314 == t316) = true then (if t315 = t317 then (if t318 = t320 then (if t319 = t321 then (if t322 = t324 then (if t323 = t325 then ((week_Check.f k l1).bind fun t328 => ((bellmanref07_Check.f k l1).bind fun t329 => (some (t328 == t329)))) else (none)) else (none)) else (none)) else (none)) else (none)) else (none)) else (none)) else (none))) else (none)) = some r := H
 have A13 := Aside0.mk A130
 clear A130
 by_cases c14 : t326 = true
 ·subst c14
  have H1 : ((bellmanref07_Same.f k t306 t310).bind fun t327 => (if t327 = true then (if t307 = t311 then (if (t314 == t316) = true then (if t315 = t317 then (if t318 = t320 then (if t319 = t321 then (if t322 = t324 then (if t323 = t325 then ((week_Check.f k l1).bind fun t328 => ((bellmanref07_Check.f k l1).bind fun t329 => (some (t328 == t329)))) else (none)) else (none)) else (none)) else (none)) else (none)) else (none)) else (none)) else (none))) = some r := by rw [if_pos rfl] at H; exact H
  clear H
  have H := H1
  clear H1
  replace H := Option.bind_eq_some_iff.mp H
  obtain ⟨t327, A150, H⟩ := H
  replace H : (if t327 = true then (if t307 = t311 then (if (t314 == t316) = true then (if t315 = t317 then (if t318 = t320 then (if t319 = t321 then (if t322 = t324 then (if t323 = t325 then ((week_Check.f k l1).bind fun t328 => ((bellmanref07_Check.f k l1).bind fun t329 => (some (t328 == t329)))) else (none)) else (none)) else (none)) else (none)) else (none)) else (none)) else (none)) else (none)) = some r := H
  have A15 := Aside0.mk A150
  clear A150
  by_cases c16 : t327 = true
  ·subst c16
   have H1 : (if t307 = t311 then (if (t314 == t316) = true then (if t315 = t317 then (if t318 = t320 then (if t319 = t321 then (if t322 = t324 then (if t323 = t325 then ((week_Check.f k l1).bind fun t328 => ((bellmanref07_Check.f k l1).bind fun t329 => (some (t328 == t329)))) else (none)) else (none)) else (none)) else (none)) else (none)) else (none)) else (none)) = some r := by rw [if_pos rfl] at H; exact H
   clear H
   have H := H1
   clear H1
   by_cases c17 : t307 = t311
   ·rw [if_pos c17] at H
    have c17b0 : (t307 == t311) = true := beq_iff_eq.mpr c17
    have c17b1 : (t307 != t311) = false := bne_eq_false_iff_eq.mpr c17
    clear c17
    by_cases c18 : (t314 == t316) = true
    ·rw [if_pos c18] at H
     have c18b0 : (t314 == t316) = true := c18
     (try (have c18b1 : decide (t314 = t316) = true := by simpa using c18))
     (try (have c18b2 : (t314 == t316) = true := by simpa using c18))
     clear c18
     by_cases c19 : t315 = t317
     ·rw [if_pos c19] at H
      have c19b0 : (t315 == t317) = true := beq_iff_eq.mpr c19
      have c19b1 : (t315 != t317) = false := bne_eq_false_iff_eq.mpr c19
      clear c19
      by_cases c20 : t318 = t320
      ·rw [if_pos c20] at H
       have c20b0 : (t318 == t320) = true := beq_iff_eq.mpr c20
       have c20b1 : (t318 != t320) = false := bne_eq_false_iff_eq.mpr c20
       clear c20
       by_cases c21 : t319 = t321
       ·rw [if_pos c21] at H
        have c21b0 : (t319 == t321) = true := beq_iff_eq.mpr c21
        have c21b1 : (t319 != t321) = false := bne_eq_false_iff_eq.mpr c21
        clear c21
        by_cases c22 : t322 = t324
        ·rw [if_pos c22] at H
         have c22b0 : (t322 == t324) = true := beq_iff_eq.mpr c22
         have c22b1 : (t322 != t324) = false := bne_eq_false_iff_eq.mpr c22
         clear c22
         by_cases c23 : t323 = t325
         ·rw [if_pos c23] at H
          have c23b0 : (t323 == t325) = true := beq_iff_eq.mpr c23
          have c23b1 : (t323 != t325) = false := bne_eq_false_iff_eq.mpr c23
          clear c23
          replace H := Option.bind_eq_some_iff.mp H
          obtain ⟨t328, A240, H⟩ := H
          replace H : ((bellmanref07_Check.f k l1).bind fun t329 => (some (t328 == t329))) = some r := H
          have A24 := Aside0.mk A240
          clear A240
          replace H := Option.bind_eq_some_iff.mp H
          obtain ⟨t329, A250, H⟩ := H
          replace H : (some (t328 == t329)) = some r := H
          have A25 := Aside0.mk A250
          clear A250
          obtain rfl := Option.some.inj H
          go_enter Try.func3, Try.ntmps3
          go_wp2_with (first | ((with_reducible refine gate_callee (f := 8) rfl ?_); refine goesL_ (some 27) rfl rfl Try.func8 (by kernel_rfl) rfl #[.slice A0 l0.length c0] rfl (by (try simp only [List.map_toArray, List.map_cons, List.map_nil]); first | done | rfl | (simp only [List.length_drop, List.length_take]; rfl)) ?_; (with_reducible refine (week_Make.calls k _ _ l0 t306 t307 _ ?side1 ?side2 A5.out).mono ?_); (case side1 => repeat (first | exact HR0.out | (with_reducible refine Kd.C_alloc ?_ _) | (with_reducible refine Kd.C_drewN ?_ _) | (with_reducible refine Kd.C_drew ?_))); (case side2 => exact HC0.out); rintro e w26 ⟨v308, rfl, ho0, hb⟩; refine ⟨_, rfl, ?_⟩; have n0_ := Aside0.mk (Kd.R_lower ho0 (below_size (by repeat (first | (with_reducible first | exact HB.out | apply below_alloc | apply pw_below_drewN | apply below_drew1) | exact HB.out)))); have n1_ := Aside0.mk (below_step (by repeat (first | (with_reducible first | exact HB.out | apply below_alloc | apply pw_below_drewN | apply below_drew1) | exact HB.out)) hb); clear HB; have HO309 := n0_; have HB := n1_; clear n0_ n1_; (try clear hb); (try clear hb2); (try clear hk); (try clear hi); (try clear ho0)) | ((with_reducible refine gate_callee (f := 9) rfl ?_); refine goesL_ (some 32) rfl rfl Try.func9 (by kernel_rfl) rfl #[.slice A0 l0.length c0] rfl (by (try simp only [List.map_toArray, List.map_cons, List.map_nil]); first | done | rfl | (simp only [List.length_drop, List.length_take]; rfl)) ?_; (with_reducible refine (bellmanref07_Make.calls k _ _ l0 t310 t311 _ ?side1 ?side2 A6.out).mono ?_); (case side1 => repeat (first | exact (Kd.C_below HR0.out HB.out) | (with_reducible refine Kd.C_alloc ?_ _) | (with_reducible refine Kd.C_drewN ?_ _) | (with_reducible refine Kd.C_drew ?_))); (case side2 => exact HC0.out); rintro e w27 ⟨v312, rfl, ho0, hb⟩; refine ⟨_, rfl, ?_⟩; have n0_ := Aside0.mk (Kd.R_elder' (by (with_reducible repeat (first | apply Kd.R_alloc | apply Kd.R_drewN | apply Kd.R_drew)); exact HO309.out) (Kd.R_base ho0) hb); have n1_ := Aside0.mk (Kd.R_lower (Kd.R_new' ho0 (Kd.R_lt (by (with_reducible repeat (first | apply Kd.R_alloc | apply Kd.R_drewN | apply Kd.R_drew)); exact HO309.out))) (below_size (by repeat (first | (with_reducible first | exact HB.out | apply below_alloc | apply pw_below_drewN | apply below_drew1) | exact HB.out)))); have n2_ := Aside0.mk (below_step (by repeat (first | (with_reducible first | exact HB.out | apply below_alloc | apply pw_below_drewN | apply below_drew1) | exact HB.out)) hb); clear HO309; clear HB; have HO309 := n0_; have HO313 := n1_; have HB := n2_; clear n0_ n1_ n2_; (try clear hb); (try clear hb2); (try clear hk); (try clear hi); (try clear ho0)) | ((with_reducible refine gate_callee (f := 10) rfl ?_); refine goesL_ (some 38) rfl rfl Try.func10 (by kernel_rfl) rfl #[.slice A1 l1.length c1, .int .i64 a2] rfl (by (try simp only [List.map_toArray, List.map_cons, List.map_nil]); first | done | rfl | (simp only [List.length_drop, List.length_take]; rfl)) ?_; (with_reducible refine (week_Has.calls k _ _ l1 a2 t314 t315 _ ?side1 ?side2 A7.out).mono ?_); (case side1 => repeat (first | exact (Kd.C_below HR1.out HB.out) | (with_reducible refine Kd.C_alloc ?_ _) | (with_reducible refine Kd.C_drewN ?_ _) | (with_reducible refine Kd.C_drew ?_))); (case side2 => exact HC1.out); rintro e w28 ⟨rfl, hb⟩; refine ⟨_, rfl, ?_⟩; have n0_ := Aside0.mk (Kd.R_below (by (with_reducible repeat (first | apply Kd.R_alloc | apply Kd.R_drewN | apply Kd.R_drew)); exact HO309.out) hb); have n1_ := Aside0.mk (Kd.R_below (by (with_reducible repeat (first | apply Kd.R_alloc | apply Kd.R_drewN | apply Kd.R_drew)); exact HO313.out) hb); have n2_ := Aside0.mk (below_step (by repeat (first | (with_reducible first | exact HB.out | apply below_alloc | apply pw_below_drewN | apply below_drew1) | exact HB.out)) hb); clear HO309; clear HO313; clear HB; have HO309 := n0_; have HO313 := n1_; have HB := n2_; clear n0_ n1_ n2_; (try clear hb); (try clear hb2); (try clear hk); (try clear hi)) | ((with_reducible refine gate_callee (f := 11) rfl ?_); refine goesL_ (some 44) rfl rfl Try.func11 (by kernel_rfl) rfl #[.slice A1 l1.length c1, .int .i64 a2] rfl (by (try simp only [List.map_toArray, List.map_cons, List.map_nil]); first | done | rfl | (simp only [List.length_drop, List.length_take]; rfl)) ?_; (with_reducible refine (bellmanref07_Has.calls k _ _ l1 a2 t316 t317 _ ?side1 ?side2 A8.out).mono ?_); (case side1 => repeat (first | exact (Kd.C_below HR1.out HB.out) | (with_reducible refine Kd.C_alloc ?_ _) | (with_reducible refine Kd.C_drewN ?_ _) | (with_reducible refine Kd.C_drew ?_))); (case side2 => exact HC1.out); rintro e w29 ⟨rfl, hb⟩; refine ⟨_, rfl, ?_⟩; have n0_ := Aside0.mk (Kd.R_below (by (with_reducible repeat (first | apply Kd.R_alloc | apply Kd.R_drewN | apply Kd.R_drew)); exact HO309.out) hb); have n1_ := Aside0.mk (Kd.R_below (by (with_reducible repeat (first | apply Kd.R_alloc | apply Kd.R_drewN | apply Kd.R_drew)); exact HO313.out) hb); have n2_ := Aside0.mk (below_step (by repeat (first | (with_reducible first | exact HB.out | apply below_alloc | apply pw_below_drewN | apply below_drew1) | exact HB.out)) hb); clear HO309; clear HO313; clear HB; have HO309 := n0_; have HO313 := n1_; have HB := n2_; clear n0_ n1_ n2_; (try clear hb); (try clear hb2); (try clear hk); (try clear hi)) | ((with_reducible refine gate_callee (f := 12) rfl ?_); refine goesL_ (some 49) rfl rfl Try.func12 (by kernel_rfl) rfl #[.slice A1 l1.length c1] rfl (by (try simp only [List.map_toArray, List.map_cons, List.map_nil]); first | done | rfl | (simp only [List.length_drop, List.length_take]; rfl)) ?_; (with_reducible refine (week_Sum.calls k _ _ l1 t318 t319 _ ?side1 ?side2 A9.out).mono ?_); (case side1 => repeat (first | exact (Kd.C_below HR1.out HB.out) | (with_reducible refine Kd.C_alloc ?_ _) | (with_reducible refine Kd.C_drewN ?_ _) | (with_reducible refine Kd.C_drew ?_))); (case side2 => exact HC1.out); rintro e w30 ⟨rfl, hb⟩; refine ⟨_, rfl, ?_⟩; have n0_ := Aside0.mk (Kd.R_below (by (with_reducible repeat (first | apply Kd.R_alloc | apply Kd.R_drewN | apply Kd.R_drew)); exact HO309.out) hb); have n1_ := Aside0.mk (Kd.R_below (by (with_reducible repeat (first | apply Kd.R_alloc | apply Kd.R_drewN | apply Kd.R_drew)); exact HO313.out) hb); have n2_ := Aside0.mk (below_step (by repeat (first | (with_reducible first | exact HB.out | apply below_alloc | apply pw_below_drewN | apply below_drew1) | exact HB.out)) hb); clear HO309; clear HO313; clear HB; have HO309 := n0_; have HO313 := n1_; have HB := n2_; clear n0_ n1_ n2_; (try clear hb); (try clear hb2); (try clear hk); (try clear hi)) | ((with_reducible refine gate_callee (f := 13) rfl ?_); refine goesL_ (some 54) rfl rfl Try.func13 (by kernel_rfl) rfl #[.slice A1 l1.length c1] rfl (by (try simp only [List.map_toArray, List.map_cons, List.map_nil]); first | done | rfl | (simp only [List.length_drop, List.length_take]; rfl)) ?_; (with_reducible refine (bellmanref07_Sum.calls k _ _ l1 t320 t321 _ ?side1 ?side2 A10.out).mono ?_); (case side1 => repeat (first | exact (Kd.C_below HR1.out HB.out) | (with_reducible refine Kd.C_alloc ?_ _) | (with_reducible refine Kd.C_drewN ?_ _) | (with_reducible refine Kd.C_drew ?_))); (case side2 => exact HC1.out); rintro e w31 ⟨rfl, hb⟩; refine ⟨_, rfl, ?_⟩; have n0_ := Aside0.mk (Kd.R_below (by (with_reducible repeat (first | apply Kd.R_alloc | apply Kd.R_drewN | apply Kd.R_drew)); exact HO309.out) hb); have n1_ := Aside0.mk (Kd.R_below (by (with_reducible repeat (first | apply Kd.R_alloc | apply Kd.R_drewN | apply Kd.R_drew)); exact HO313.out) hb); have n2_ := Aside0.mk (below_step (by repeat (first | (with_reducible first | exact HB.out | apply below_alloc | apply pw_below_drewN | apply below_drew1) | exact HB.out)) hb); clear HO309; clear HO313; clear HB; have HO309 := n0_; have HO313 := n1_; have HB := n2_; clear n0_ n1_ n2_; (try clear hb); (try clear hb2); (try clear hk); (try clear hi)) | ((with_reducible refine gate_callee (f := 14) rfl ?_); refine goesL_ (some 61) rfl rfl Try.func14 (by kernel_rfl) rfl #[.slice A1 l1.length c1, .int .i64 a2, .bool a3] rfl (by (try simp only [List.map_toArray, List.map_cons, List.map_nil]); first | done | rfl | (simp only [List.length_drop, List.length_take]; rfl)) ?_; (with_reducible refine (week_Next.calls k _ _ l1 a2 a3 t322 t323 _ ?side1 ?side2 A11.out).mono ?_); (case side1 => repeat (first | exact (Kd.C_below HR1.out HB.out) | (with_reducible refine Kd.C_alloc ?_ _) | (with_reducible refine Kd.C_drewN ?_ _) | (with_reducible refine Kd.C_drew ?_))); (case side2 => exact HC1.out); rintro e w32 ⟨rfl, hb⟩; refine ⟨_, rfl, ?_⟩; have n0_ := Aside0.mk (Kd.R_below (by (with_reducible repeat (first | apply Kd.R_alloc | apply Kd.R_drewN | apply Kd.R_drew)); exact HO309.out) hb); have n1_ := Aside0.mk (Kd.R_below (by (with_reducible repeat (first | apply Kd.R_alloc | apply Kd.R_drewN | apply Kd.R_drew)); exact HO313.out) hb); have n2_ := Aside0.mk (below_step (by repeat (first | (with_reducible first | exact HB.out | apply below_alloc | apply pw_below_drewN | apply below_drew1) | exact HB.out)) hb); clear HO309; clear HO313; clear HB; have HO309 := n0_; have HO313 := n1_; have HB := n2_; clear n0_ n1_ n2_; (try clear hb); (try clear hb2); (try clear hk); (try clear hi)) | ((with_reducible refine gate_callee (f := 15) rfl ?_); refine goesL_ (some 68) rfl rfl Try.func15 (by kernel_rfl) rfl #[.slice A1 l1.length c1, .int .i64 a2, .bool a3] rfl (by (try simp only [List.map_toArray, List.map_cons, List.map_nil]); first | done | rfl | (simp only [List.length_drop, List.length_take]; rfl)) ?_; (with_reducible refine (bellmanref07_Next.calls k _ _ l1 a2 a3 t324 t325 _ ?side1 ?side2 A12.out).mono ?_); (case side1 => repeat (first | exact (Kd.C_below HR1.out HB.out) | (with_reducible refine Kd.C_alloc ?_ _) | (with_reducible refine Kd.C_drewN ?_ _) | (with_reducible refine Kd.C_drew ?_))); (case side2 => exact HC1.out); rintro e w33 ⟨rfl, hb⟩; refine ⟨_, rfl, ?_⟩; have n0_ := Aside0.mk (Kd.R_below (by (with_reducible repeat (first | apply Kd.R_alloc | apply Kd.R_drewN | apply Kd.R_drew)); exact HO309.out) hb); have n1_ := Aside0.mk (Kd.R_below (by (with_reducible repeat (first | apply Kd.R_alloc | apply Kd.R_drewN | apply Kd.R_drew)); exact HO313.out) hb); have n2_ := Aside0.mk (below_step (by repeat (first | (with_reducible first | exact HB.out | apply below_alloc | apply pw_below_drewN | apply below_drew1) | exact HB.out)) hb); clear HO309; clear HO313; clear HB; have HO309 := n0_; have HO313 := n1_; have HB := n2_; clear n0_ n1_ n2_; (try clear hb); (try clear hb2); (try clear hk); (try clear hi)) | ((with_reducible refine gate_callee (f := 16) rfl ?_); refine goesL_ (some 71) rfl rfl Try.func16 (by kernel_rfl) rfl #[] rfl (by (try simp only [List.map_toArray, List.map_cons, List.map_nil]); first | done | rfl | (simp only [List.length_drop, List.length_take]; rfl)) ?_; (with_reducible refine (bellmanlaw07_lives.calls k  true _ A13.out).mono ?_); rintro e w34 ⟨rfl, hb⟩; refine ⟨_, rfl, ?_⟩; have n0_ := Aside0.mk (Kd.R_below (by (with_reducible repeat (first | apply Kd.R_alloc | apply Kd.R_drewN | apply Kd.R_drew)); exact HO309.out) hb); have n1_ := Aside0.mk (Kd.R_below (by (with_reducible repeat (first | apply Kd.R_alloc | apply Kd.R_drewN | apply Kd.R_drew)); exact HO313.out) hb); have n2_ := Aside0.mk (below_step (by repeat (first | (with_reducible first | exact HB.out | apply below_alloc | apply pw_below_drewN | apply below_drew1) | exact HB.out)) hb); clear HO309; clear HO313; clear HB; have HO309 := n0_; have HO313 := n1_; have HB := n2_; clear n0_ n1_ n2_; (try clear hb); (try clear hb2); (try clear hk); (try clear hi); obtain ⟨Ao35, co35, eo35⟩ := Kd.R_slice HO309.out; subst eo35; obtain ⟨Ao36, co36, eo36⟩ := Kd.R_slice HO313.out; subst eo36) | (go_at_call 17; (with_reducible refine (bellmanref07_Same.calls k _ _ t306 _ _ t310 true _ ?side1 ?side2 ?side3 ?side4 A15.out).mono ?_); (case side1 => repeat (first | exact (Kd.R_reads' HO309.out).2.2 | (with_reducible refine Kd.C_alloc ?_ _) | (with_reducible refine Kd.C_drewN ?_ _) | (with_reducible refine Kd.C_drew ?_))); (case side2 => exact (Kd.R_reads' HO309.out).2.1); (case side3 => repeat (first | exact (Kd.R_reads' HO313.out).2.2 | (with_reducible refine Kd.C_alloc ?_ _) | (with_reducible refine Kd.C_drewN ?_ _) | (with_reducible refine Kd.C_drew ?_))); (case side4 => exact (Kd.R_reads' HO313.out).2.1); rintro e w' ⟨rfl, ⟨nd, rfl⟩⟩) | (go_at_call 18; (with_reducible refine (week_Check.calls k _ _ l1 t328 _ ?side1 ?side2 A24.out).mono ?_); (case side1 => repeat (first | exact (Kd.C_below HR1.out (by repeat (first | (with_reducible first | exact HB.out | apply below_alloc | apply pw_below_drewN | apply below_drew1) | exact HB.out))) | (with_reducible refine Kd.C_alloc ?_ _) | (with_reducible refine Kd.C_drewN ?_ _) | (with_reducible refine Kd.C_drew ?_))); (case side2 => exact HC1.out); rintro e w37 ⟨rfl, hb⟩; have n0_ := Aside0.mk (Kd.R_below (by (with_reducible repeat (first | apply Kd.R_alloc | apply Kd.R_drewN | apply Kd.R_drew)); exact HO309.out) hb); have n1_ := Aside0.mk (Kd.R_below (by (with_reducible repeat (first | apply Kd.R_alloc | apply Kd.R_drewN | apply Kd.R_drew)); exact HO313.out) hb); have n2_ := Aside0.mk (below_step (by repeat (first | (with_reducible first | exact HB.out | apply below_alloc | apply pw_below_drewN | apply below_drew1) | exact HB.out)) hb); clear HO309; clear HO313; clear HB; have HO309 := n0_; have HO313 := n1_; have HB := n2_; clear n0_ n1_ n2_; (try clear hb); (try clear hb2); (try clear hk); (try clear hi)) | (go_at_call 19; (with_reducible refine (bellmanref07_Check.calls k _ _ l1 t329 _ ?side1 ?side2 A25.out).mono ?_); (case side1 => repeat (first | exact (Kd.C_below HR1.out HB.out) | (with_reducible refine Kd.C_alloc ?_ _) | (with_reducible refine Kd.C_drewN ?_ _) | (with_reducible refine Kd.C_drew ?_))); (case side2 => exact HC1.out); rintro e w38 ⟨rfl, hb⟩; have n0_ := Aside0.mk (Kd.R_below (by (with_reducible repeat (first | apply Kd.R_alloc | apply Kd.R_drewN | apply Kd.R_drew)); exact HO309.out) hb); have n1_ := Aside0.mk (Kd.R_below (by (with_reducible repeat (first | apply Kd.R_alloc | apply Kd.R_drewN | apply Kd.R_drew)); exact HO313.out) hb); have n2_ := Aside0.mk (below_step (by repeat (first | (with_reducible first | exact HB.out | apply below_alloc | apply pw_below_drewN | apply below_drew1) | exact HB.out)) hb); clear HO309; clear HO313; clear HB; have HO309 := n0_; have HO313 := n1_; have HB := n2_; clear n0_ n1_ n2_; (try clear hb); (try clear hb2); (try clear hk); (try clear hi)))
          go_ret
          exact ⟨by first | rfl | (simp [errW_none, errW_some] <;> rfl) | (simp [*, errW_none, errW_some] <;> rfl), by repeat (first | (with_reducible first | exact HB.out | apply below_alloc | apply pw_below_drewN | apply below_drew1) | exact HB.out)⟩
         ·rw [if_neg c23] at H
          exact absurd H (by simp)
        ·rw [if_neg c22] at H
         exact absurd H (by simp)
       ·rw [if_neg c21] at H
        exact absurd H (by simp)
      ·rw [if_neg c20] at H
       exact absurd H (by simp)
     ·rw [if_neg c19] at H
      exact absurd H (by simp)
    ·rw [if_neg c18] at H
     exact absurd H (by simp)
   ·rw [if_neg c17] at H
    exact absurd H (by simp)
  ·replace c16 := Bool.eq_false_iff.mpr c16
   subst c16
   have H1 : (none) = some r := by rw [if_neg (show ¬ (false = true) by decide)] at H; exact H
   clear H
   have H := H1
   clear H1
   exact absurd H (by simp)
 ·replace c14 := Bool.eq_false_iff.mpr c14
  subst c14
  have H1 : (none) = some r := by rw [if_neg (show ¬ (false = true) by decide)] at H; exact H
  clear H
  have H := H1
  clear H1
  exact absurd H (by simp)

end Go.Proofs.Ytlnadfhhgcpkpaa.XW
-- squeezed
