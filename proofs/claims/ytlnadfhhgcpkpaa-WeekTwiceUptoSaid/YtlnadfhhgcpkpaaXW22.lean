-- by px.py, a program of this session, over the kit's printer: functions given by hand stand beside printed ones. Lean checks all of it.
import Derived.Test.YtlnadfhhgcpkpaaXW0
import Derived.Test.YtlnadfhhgcpkpaaXW4
import Derived.Test.YtlnadfhhgcpkpaaXW10
import Derived.Test.YtlnadfhhgcpkpaaXW13
import Derived.Test.YtlnadfhhgcpkpaaXW14
import Derived.Test.YtlnadfhhgcpkpaaXW15
import Derived.Test.YtlnadfhhgcpkpaaXW16
import Derived.Test.YtlnadfhhgcpkpaaXW17
namespace Go.Proofs.Ytlnadfhhgcpkpaa.XW
open Go.RowKit Go.Proofs.YtlnadfhhgcpkpaaW.PrintWords Go.Proofs.YtlnadfhhgcpkpaaW.PrintLast Go.Proofs.YtlnadfhhgcpkpaaW.PrintMore
attribute [local go_sem] max2_int min2_int max_two min_two max_three min_three max_four min_four   -- for this text's walks alone
set_option linter.unusedVariables false
set_option linter.unusedSimpArgs false

/-! ### bellmanlaw07_WeekTwice: function 6 -/
def bellmanlaw07_WeekTwice.f (k : Nat) (l0 : List (S38)) : Option (Bool) := (bellmanlaw07_lives.f k).bind fun t431 => (if t431 = true then ((week_Not.f k l0).bind fun bt432 => (if bt432.2 = 0 then ((week_Not.f k bt432.1).bind fun bt436 => ((week_And.f k l0 bt432.1).bind fun bt440 => ((week_Or.f k l0 bt432.1).bind fun bt444 => ((week_Sum.f k l0).bind fun bt448 => ((week_Sum.f k bt432.1).bind fun bt450 => ((week_Make.f k l0).bind fun bt452 => (if bt436.2 = 0 then ((bellmanref07_Same.f k bt436.1 l0).bind fun t456 => (if t456 = true then (if bt440.2 = 0 then (if (bt440.1.length : Int) = 0 then (if bt444.2 = 0 then ((bellmanref07_Same.f k bt444.1 (([(⟨0, 10080⟩ : S38)] : List (S38)))).bind fun t460 => (if t460 = true then (if bt448.2 = 0 then (if bt450.2 = 0 then (if (wrap64 (bt448.1 + bt450.1)) = 10080 then (if bt452.2 = 0 then ((bellmanref07_Same.f k bt452.1 l0).bind fun t461 => (some t461)) else (none)) else (none)) else (none)) else (none)) else (none))) else (none)) else (none)) else (none)) else (none))) else (none)))))))) else (some ((bt432.1.length : Int) == 0)))) else (none))
theorem bellmanlaw07_WeekTwice.mono : ∀ a0 k, LeO (bellmanlaw07_WeekTwice.f k a0) (bellmanlaw07_WeekTwice.f (k + 1) a0) := by
 intro a0 k
 unfold bellmanlaw07_WeekTwice.f
 repeat' first
   | (with_reducible exact bellmanlaw07_lives.mono _)
   | (with_reducible exact bellmanref07_Same.mono _ _ _)
   | (with_reducible exact week_And.mono _ _ _)
   | (with_reducible exact week_Make.mono _ _)
   | (with_reducible exact week_Not.mono _ _)
   | (with_reducible exact week_Or.mono _ _ _)
   | (with_reducible exact week_Sum.mono _ _)
   | (with_reducible exact LeO.refl _)
   | (with_reducible exact LeO.none _)
   | (with_reducible refine LeO.ite ?_ ?_)
   | (with_reducible refine LeO.bind ?_ (fun _ => ?_))
   | exact bellmanlaw07_lives.mono _
   | exact bellmanref07_Same.mono _ _ _
   | exact week_And.mono _ _ _
   | exact week_Make.mono _ _
   | exact week_Not.mono _ _
   | exact week_Or.mono _ _ _
   | exact week_Sum.mono _ _
   | exact LeO.none _
   | refine LeO.ite ?_ ?_
   | refine LeO.bind ?_ (fun _ => ?_)
set_option maxHeartbeats 8000000 in
set_option maxRecDepth 100000 in
theorem bellmanlaw07_WeekTwice.calls (k : Nat) (A0 : Option Addr) (c0 : Nat) (l0 : List (S38)) (r : Bool) (w : World) (hr0 : Kd.C k38 w A0 l0.length l0) (hc0 : l0.length ≤ c0) (h : bellmanlaw07_WeekTwice.f k l0 = some r) :
  Calls Try.prog 6 #[.slice A0 l0.length c0] w fun e w' => e = .returned (.bool r) ∧ Below w.heap.size w w' := by
 have hu38 := Try.underlying38
 have HR0 := Aside0.mk hr0
 have HC0 := Aside0.mk hc0
 clear hr0 hc0
 have HB := Aside0.mk (Below.refl w.heap.size w)
 have H : ((bellmanlaw07_lives.f k).bind fun t431 => (if t431 = true then ((week_Not.f k l0).bind fun bt432 => (if bt432.2 = 0 then ((week_Not.f k bt432.1).bind fun bt436 => ((week_And.f k l0 bt432.1).bind fun bt440 => ((week_Or.f k l0 bt432.1).bind fun bt444 => ((week_Sum.f k l0).bind fun bt448 => ((week_Sum.f k bt432.1).bind fun bt450 => ((week_Make.f k l0).bind fun bt452 => (if bt436.2 = 0 then ((bellmanref07_Same.f k bt436.1 l0).bind fun t456 => (if t456 = true then (if bt440.2 = 0 then (if (bt440.1.length : Int) = 0 then (if bt444.2 = 0 then ((bellmanref07_Same.f k bt444.1 (([(⟨0, 10080⟩ : S38)] : List (S38)))).bind fun t460 => (if t460 = true then (if bt448.2 = 0 then (if bt450.2 = 0 then (if (wrap64 (bt448.1 + bt450.1)) = 10080 then (if bt452.2 = 0 then ((bellmanref07_Same.f k bt452.1 l0).bind fun t461 => (some t461)) else (none)) else (none)) else (none)) else (none)) else (none))) else (none)) else (none)) else (none)) else (none))) else (none)))))))) else (some ((bt432.1.length : Int) == 0)))) else (none))) = some r := h
 clear h
 replace H := Option.bind_eq_some_iff.mp H
 obtain ⟨t431, A20, H⟩ := H
 replace H : (if t431 = true then ((week_Not.f k l0).bind fun bt432 => (if bt432.2 = 0 then ((week_Not.f k bt432.1).bind fun bt436 => ((week_And.f k l0 bt432.1).bind fun bt440 => ((week_Or.f k l0 bt432.1).bind fun bt444 => ((week_Sum.f k l0).bind fun bt448 => ((week_Sum.f k bt432.1).bind fun bt450 => ((week_Make.f k l0).bind fun bt452 => (if bt436.2 = 0 then ((bellmanref07_Same.f k bt436.1 l0).bind fun t456 => (if t456 = true then (if bt440.2 = 0 then (if (bt440.1.length : Int) = 0 then (if bt444.2 = 0 then ((bellmanref07_Same.f k bt444.1 (([(⟨0, 10080⟩ : S38)] : List (S38)))).bind fun t460 => (if t460 = true then (if bt448.2 = 0 then (if bt450.2 = 0 then (if (wrap64 (bt448.1 + bt450.1)) = 10080 then (if bt452.2 = 0 then ((bellmanref07_Same.f k bt452.1 l0).bind fun t461 => (some t461)) else (none)) else (none)) else (none)) else (none)) else (none))) else (none)) else (none)) else (none)) else (none))) else (none)))))))) else (some ((bt432.1.length : Int) == 0)))) else (none)) = some r := H
 have A2 := Aside0.mk A20
 clear A20
 by_cases c3 : t431 = true
 ·subst c3
  have H1 : ((week_Not.f k l0).bind fun bt432 => (if bt432.2 = 0 then ((week_Not.f k bt432.1).bind fun bt436 => ((week_And.f k l0 bt432.1).bind fun bt440 => ((week_Or.f k l0 bt432.1).bind fun bt444 => ((week_Sum.f k l0).bind fun bt448 => ((week_Sum.f k bt432.1).bind fun bt450 => ((week_Make.f k l0).bind fun bt452 => (if bt436.2 = 0 then ((bellmanref07_Same.f k bt436.1 l0).bind fun t456 => (if t456 = true then (if bt440.2 = 0 then (if (bt440.1.length : Int) = 0 then (if bt444.2 = 0 then ((bellmanref07_Same.f k bt444.1 (([(⟨0, 10080⟩ : S38)] : List (S38)))).bind fun t460 => (if t460 = true then (if bt448.2 = 0 then (if bt450.2 = 0 then (if (wrap64 (bt448.1 + bt450.1)) = 10080 then (if bt452.2 = 0 then ((bellmanref07_Same.f k bt452.1 l0).bind fun t461 => (some t461)) else (none)) else (none)) else (none)) else (none)) else (none))) else (none)) else (none)) else (none)) else (none))) else (none)))))))) else (some ((bt432.1.length : Int) == 0)))) = some r := by rw [if_pos rfl] at H; exact H
  clear H
  have H := H1
  clear H1
  replace H := Option.bind_eq_some_iff.mp H
  obtain ⟨⟨t432, t433⟩, A40, H⟩ := H
  replace H : (if t433 = 0 then ((week_Not.f k t432).bind fun bt436 => ((week_And.f k l0 t432).bind fun bt440 => ((week_Or.f k l0 t432).bind fun bt444 => ((week_Sum.f k l0).bind fun bt448 => ((week_Sum.f k t432).bind fun bt450 => ((week_Make.f k l0).bind fun bt452 => (if bt436.2 = 0 then ((bellmanref07_Same.f k bt436.1 l0).bind fun t456 => (if t456 = true then (if bt440.2 = 0 then (if (bt440.1.length : Int) = 0 then (if bt444.2 = 0 then ((bellmanref07_Same.f k bt444.1 (([(⟨0, 10080⟩ : S38)] : List (S38)))).bind fun t460 => (if t460 = true then (if bt448.2 = 0 then (if bt450.2 = 0 then (if (wrap64 (bt448.1 + bt450.1)) = 10080 then (if bt452.2 = 0 then ((bellmanref07_Same.f k bt452.1 l0).bind fun t461 => (some t461)) else (none)) else (none)) else (none)) else (none)) else (none))) else (none)) else (none)) else (none)) else (none))) else (none)))))))) else (some ((t432.length : Int) == 0))) = some r := H
  have A4 := Aside0.mk A40
  clear A40
  by_cases c5 : t433 = 0
  ·rw [if_pos c5] at H
   have c5b0 : (t433 == 0) = true := beq_iff_eq.mpr c5
   have c5b1 : (t433 != 0) = false := bne_eq_false_iff_eq.mpr c5
   clear c5
   replace H := Option.bind_eq_some_iff.mp H
   obtain ⟨⟨t436, t437⟩, A60, H⟩ := H
   replace H : ((week_And.f k l0 t432).bind fun bt440 => ((week_Or.f k l0 t432).bind fun bt444 => ((week_Sum.f k l0).bind fun bt448 => ((week_Sum.f k t432).bind fun bt450 => ((week_Make.f k l0).bind fun bt452 => (if t437 = 0 then ((bellmanref07_Same.f k t436 l0).bind fun t456 => (if t456 = true then (if bt440.2 = 0 then (if (bt440.1.length : Int) = 0 then (if bt444.2 = 0 then ((bellmanref07_Same.f k bt444.1 (([(⟨0, 10080⟩ : S38)] : List (S38)))).bind fun t460 => (if t460 = true then (if bt448.2 = 0 then (if bt450.2 = 0 then (if (wrap64 (bt448.1 + bt450.1)) = 10080 then (if bt452.2 = 0 then ((bellmanref07_Same.f k bt452.1 l0).bind fun t461 => (some t461)) else (none)) else (none)) else (none)) else (none)) else (none))) else (none)) else (none)) else (none)) else (none))) else (none))))))) = some r := H
   have A6 := Aside0.mk A60
   clear A60
   replace H := Option.bind_eq_some_iff.mp H
   obtain ⟨⟨t440, t443⟩, A70, H⟩ := H
   replace H : ((week_Or.f k l0 t432).bind fun bt444 => ((week_Sum.f k l0).bind fun bt448 => ((week_Sum.f k t432).bind fun bt450 => ((week_Make.f k l0).bind fun bt452 => (if t437 = 0 then ((bellmanref07_Same.f k t436 l0).bind fun t456 => (if t456 = true then (if t443 = 0 then (if (t440.length : Int) = 0 then (if bt444.2 = 0 then ((bellmanref07_Same.f k bt444.1 (([(⟨0, 10080⟩ : S38)] : List (S38)))).bind fun t460 => (if t460 = true then (if bt448.2 = 0 then (if bt450.2 = 0 then (if (wrap64 (bt448.1 + bt450.1)) = 10080 then (if bt452.2 = 0 then ((bellmanref07_Same.f k bt452.1 l0).bind fun t461 => (some t461)) else (none)) else (none)) else (none)) else (none)) else (none))) else (none)) else (none)) else (none)) else (none))) else (none)))))) = some r := H
   have A7 := Aside0.mk A70
   clear A70
   replace H := Option.bind_eq_some_iff.mp H
   obtain ⟨⟨t444, t447⟩, A80, H⟩ := H
   replace H : ((week_Sum.f k l0).bind fun bt448 => ((week_Sum.f k t432).bind fun bt450 => ((week_Make.f k l0).bind fun bt452 => (if t437 = 0 then ((bellmanref07_Same.f k t436 l0).bind fun t456 => (if t456 = true then (if t443 = 0 then (if (t440.length : Int) = 0 then (if t447 = 0 then ((bellmanref07_Same.f k t444 (([(⟨0, 10080⟩ : S38)] : List (S38)))).bind fun t460 => (if t460 = true then (if bt448.2 = 0 then (if bt450.2 = 0 then (if (wrap64 (bt448.1 + bt450.1)) = 10080 then (if bt452.2 = 0 then ((bellmanref07_Same.f k bt452.1 l0).bind fun t461 => (some t461)) else (none)) else (none)) else (none)) else (none)) else (none))) else (none)) else (none)) else (none)) else (none))) else (none))))) = some r := H
   have A8 := Aside0.mk A80
   clear A80
   replace H := Option.bind_eq_some_iff.mp H
   obtain ⟨⟨t448, t449⟩, A90, H⟩ := H
   replace H : ((week_Sum.f k t432).bind fun bt450 => ((week_Make.f k l0).bind fun bt452 => (if t437 = 0 then ((bellmanref07_Same.f k t436 l0).bind fun t456 => (if t456 = true then (if t443 = 0 then (if (t440.length : Int) = 0 then (if t447 = 0 then ((bellmanref07_Same.f k t444 (([(⟨0, 10080⟩ : S38)] : List (S38)))).bind fun t460 => (if t460 = true then (if t449 = 0 then (if bt450.2 = 0 then (if (wrap64 (t448 + bt450.1)) = 10080 then (if bt452.2 = 0 then ((bellmanref07_Same.f k bt452.1 l0).bind fun t461 => (some t461)) else (none)) else (none)) else (none)) else (none)) else (none))) else (none)) else (none)) else (none)) else (none))) else (none)))) = some r := H
   have A9 := Aside0.mk A90
   clear A90
   replace H := Option.bind_eq_some_iff.mp H
   obtain ⟨⟨t450, t451⟩, A100, H⟩ := H
   replace H : ((week_Make.f k l0).bind fun bt452 => (if t437 = 0 then ((bellmanref07_Same.f k t436 l0).bind fun t456 => (if t456 = true then (if t443 = 0 then (if (t440.length : Int) = 0 then (if t447 = 0 then ((bellmanref07_Same.f k t444 (([(⟨0, 10080⟩ : S38)] : List (S38)))).bind fun t460 => (if t460 = true then (if t449 = 0 then (if t451 = 0 then (if (wrap64 (t448 + t450)) = 10080 then (if bt452.2 = 0 then ((bellmanref07_Same.f k bt452.1 l0).bind fun t461 => (some t461)) else (none)) else (none)) else (none)) else (none)) else (none))) else (none)) else (none)) else (none)) else (none))) else (none))) = some r := H
   have A10 := Aside0.mk A100
   clear A100
   replace H := Option.bind_eq_some_iff.mp H
   obtain ⟨⟨t452, t453⟩, A110, H⟩ := H
   replace H : (if t437 = 0 then ((bellmanref07_Same.f k t436 l0).bind fun t456 => (if t456 = true then (if t443 = 0 then (if (t440.length : Int) = 0 then (if t447 = 0 then ((bellmanref07_Same.f k t444 (([(⟨0, 10080⟩ : S38)] : List (S38)))).bind fun t460 => (if t460 = true then (if t449 = 0 then (if t451 = 0 then (if (wrap64 (t448 + t450)) = 10080 then (if t453 = 0 then ((bellmanref07_Same.f k t452 l0).bind fun t461 => (some t461)) else (none)) else (none)) else (none)) else (none)) else (none))) else (none)) else (none)) else (none)) else (none))) else (none)) = some r := H
   have A11 := Aside0.mk A110
   clear A110
   by_cases c12 : t437 = 0
   ·rw [if_pos c12] at H
    have c12b0 : (t437 == 0) = true := beq_iff_eq.mpr c12
    have c12b1 : (t437 != 0) = false := bne_eq_false_iff_eq.mpr c12
    clear c12
    replace H := Option.bind_eq_some_iff.mp H
    obtain ⟨t456, A130, H⟩ := H
    replace H : (if t456 = true then (if t443 = 0 then (if (t440.length : Int) = 0 then (if t447 = 0 then ((bellmanref07_Same.f k t444 (([(⟨0, 10080⟩ : S38)] : List (S38)))).bind fun t460 => (if t460 = true then (if t449 = 0 then (if t451 = 0 then (if (wrap64 (t448 + t450)) = 10080 then (if t453 = 0 then ((bellmanref07_Same.f k t452 l0).bind fun t461 => (some t461)) else (none)) else (none)) else (none)) else (none)) else (none))) else (none)) else (none)) else (none)) else (none)) = some r := H
    have A13 := Aside0.mk A130
    clear A130
    by_cases c14 : t456 = true
    ·subst c14
     have H1 : (if t443 = 0 then (if (t440.length : Int) = 0 then (if t447 = 0 then ((bellmanref07_Same.f k t444 (([(⟨0, 10080⟩ : S38)] : List (S38)))).bind fun t460 => (if t460 = true then (if t449 = 0 then (if t451 = 0 then (if (wrap64 (t448 + t450)) = 10080 then (if t453 = 0 then ((bellmanref07_Same.f k t452 l0).bind fun t461 => (some t461)) else (none)) else (none)) else (none)) else (none)) else (none))) else (none)) else (none)) else (none)) = some r := by rw [if_pos rfl] at H; exact H
     clear H
     have H := H1
     clear H1
     by_cases c15 : t443 = 0
     ·rw [if_pos c15] at H
      have c15b0 : (t443 == 0) = true := beq_iff_eq.mpr c15
      have c15b1 : (t443 != 0) = false := bne_eq_false_iff_eq.mpr c15
      clear c15
      by_cases c16 : (t440.length : Int) = 0
      ·rw [if_pos c16] at H
       have c16b0 : ((t440.length : Int) == 0) = true := beq_iff_eq.mpr c16
       have c16b1 : ((t440.length : Int) != 0) = false := bne_eq_false_iff_eq.mpr c16
       clear c16
       by_cases c17 : t447 = 0
       ·rw [if_pos c17] at H
        have c17b0 : (t447 == 0) = true := beq_iff_eq.mpr c17
        have c17b1 : (t447 != 0) = false := bne_eq_false_iff_eq.mpr c17
        clear c17
        obtain ⟨y457, hy457⟩ : ∃ y_ : List (S38), y_ = (([(⟨0, 10080⟩ : S38)] : List (S38))) := ⟨_, rfl⟩
        replace H : ((bellmanref07_Same.f k t444 y457).bind fun t460 => (if t460 = true then (if t449 = 0 then (if t451 = 0 then (if (wrap64 (t448 + t450)) = 10080 then (if t453 = 0 then ((bellmanref07_Same.f k t452 l0).bind fun t461 => (some t461)) else (none)) else (none)) else (none)) else (none)) else (none))) = some r := by first | (rw [hy457]; with_reducible exact H) | (have H2_ := (Option.bind_some _ _).symm.trans H; rw [hy457]; with_reducible exact H2_) | (have H2_ := (Option.bind_some _ _).symm.trans H; with_reducible exact H2_) | with_reducible exact H | (rw [hy457]; exact H) | exact H
        have Ny457 := Aside0.mk hy457
        clear hy457
        replace H := Option.bind_eq_some_iff.mp H
        obtain ⟨t460, A180, H⟩ := H
        replace H : (if t460 = true then (if t449 = 0 then (if t451 = 0 then (if (wrap64 (t448 + t450)) = 10080 then (if t453 = 0 then ((bellmanref07_Same.f k t452 l0).bind fun t461 => (some t461)) else (none)) else (none)) else (none)) else (none)) else (none)) = some r := H
        have A18 := Aside0.mk A180
        clear A180
        by_cases c19 : t460 = true
        ·subst c19
         have H1 : (if t449 = 0 then (if t451 = 0 then (if (wrap64 (t448 + t450)) = 10080 then (if t453 = 0 then ((bellmanref07_Same.f k t452 l0).bind fun t461 => (some t461)) else (none)) else (none)) else (none)) else (none)) = some r := by rw [if_pos rfl] at H; exact H
         clear H
         have H := H1
         clear H1
         by_cases c20 : t449 = 0
         ·rw [if_pos c20] at H
          have c20b0 : (t449 == 0) = true := beq_iff_eq.mpr c20
          have c20b1 : (t449 != 0) = false := bne_eq_false_iff_eq.mpr c20
          clear c20
          by_cases c21 : t451 = 0
          ·rw [if_pos c21] at H
           have c21b0 : (t451 == 0) = true := beq_iff_eq.mpr c21
           have c21b1 : (t451 != 0) = false := bne_eq_false_iff_eq.mpr c21
           clear c21
           by_cases c22 : (wrap64 (t448 + t450)) = 10080
           ·rw [if_pos c22] at H
            have c22b0 : ((wrap64 (t448 + t450)) == 10080) = true := beq_iff_eq.mpr c22
            have c22b1 : ((wrap64 (t448 + t450)) != 10080) = false := bne_eq_false_iff_eq.mpr c22
            clear c22
            by_cases c23 : t453 = 0
            ·rw [if_pos c23] at H
             have c23b0 : (t453 == 0) = true := beq_iff_eq.mpr c23
             have c23b1 : (t453 != 0) = false := bne_eq_false_iff_eq.mpr c23
             clear c23
             replace H := Option.bind_eq_some_iff.mp H
             obtain ⟨t461, A240, H⟩ := H
             replace H : (some t461) = some r := H
             have A24 := Aside0.mk A240
             clear A240
             obtain rfl := Option.some.inj H
             go_enter Try.func6, Try.ntmps6
             go_wp2_with (first | ((with_reducible refine gate_callee (f := 16) rfl ?_); refine goesL_ (some 17) rfl rfl Try.func16 (by kernel_rfl) rfl #[] rfl (by (try simp only [List.map_toArray, List.map_cons, List.map_nil]); first | done | rfl | (simp only [List.length_drop, List.length_take]; rfl)) ?_; (with_reducible refine (bellmanlaw07_lives.calls k  true _ A2.out).mono ?_); rintro e w25 ⟨rfl, hb⟩; refine ⟨_, rfl, ?_⟩; have n0_ := Aside0.mk (below_step (by repeat (first | (with_reducible first | exact HB.out | apply below_alloc | apply pw_below_drewN | apply below_drew1) | exact HB.out)) hb); clear HB; have HB := n0_; clear n0_; (try clear hb); (try clear hb2); (try clear hk); (try clear hi)) | ((with_reducible refine gate_callee (f := 20) rfl ?_); refine goesL_ (some 21) rfl rfl Try.func20 (by kernel_rfl) rfl #[.slice A0 l0.length c0] rfl (by (try simp only [List.map_toArray, List.map_cons, List.map_nil]); first | done | rfl | (simp only [List.length_drop, List.length_take]; rfl)) ?_; (with_reducible refine (week_Not.calls k _ _ l0 t432 t433 _ ?side1 ?side2 A4.out).mono ?_); (case side1 => repeat (first | exact (Kd.C_below HR0.out HB.out) | (with_reducible refine Kd.C_alloc ?_ _) | (with_reducible refine Kd.C_drewN ?_ _) | (with_reducible refine Kd.C_drew ?_))); (case side2 => exact HC0.out); rintro e w26 ⟨v434, rfl, ho0, hb⟩; refine ⟨_, rfl, ?_⟩; have n0_ := Aside0.mk (Kd.R_lower ho0 (below_size (by repeat (first | (with_reducible first | exact HB.out | apply below_alloc | apply pw_below_drewN | apply below_drew1) | exact HB.out)))); have n1_ := Aside0.mk (below_step (by repeat (first | (with_reducible first | exact HB.out | apply below_alloc | apply pw_below_drewN | apply below_drew1) | exact HB.out)) hb); clear HB; have HO435 := n0_; have HB := n1_; clear n0_ n1_; (try clear hb); (try clear hb2); (try clear hk); (try clear hi); (try clear ho0); obtain ⟨Ao27, co27, eo27⟩ := Kd.R_slice HO435.out; subst eo27) | ((with_reducible refine gate_callee (f := 20) rfl ?_); refine goesL_ (some 31) rfl rfl Try.func20 (by kernel_rfl) rfl #[.slice Ao27 t432.length co27] rfl (by (try simp only [List.map_toArray, List.map_cons, List.map_nil]); first | done | rfl | (simp only [List.length_drop, List.length_take]; rfl)) ?_; (with_reducible refine (week_Not.calls k _ _ t432 t436 t437 _ ?side1 ?side2 A6.out).mono ?_); (case side1 => repeat (first | exact (Kd.R_reads' HO435.out).2.2 | (with_reducible refine Kd.C_alloc ?_ _) | (with_reducible refine Kd.C_drewN ?_ _) | (with_reducible refine Kd.C_drew ?_))); (case side2 => exact (Kd.R_reads' HO435.out).2.1); rintro e w28 ⟨v438, rfl, ho0, hb⟩; refine ⟨_, rfl, ?_⟩; have n0_ := Aside0.mk (Kd.R_elder' (by (with_reducible repeat (first | apply Kd.R_alloc | apply Kd.R_drewN | apply Kd.R_drew)); exact HO435.out) (Kd.R_base ho0) hb); have n1_ := Aside0.mk (Kd.R_lower (Kd.R_new' ho0 (Kd.R_lt (by (with_reducible repeat (first | apply Kd.R_alloc | apply Kd.R_drewN | apply Kd.R_drew)); exact HO435.out))) (below_size (by repeat (first | (with_reducible first | exact HB.out | apply below_alloc | apply pw_below_drewN | apply below_drew1) | exact HB.out)))); have n2_ := Aside0.mk (below_step (by repeat (first | (with_reducible first | exact HB.out | apply below_alloc | apply pw_below_drewN | apply below_drew1) | exact HB.out)) hb); clear HO435; clear HB; have HO435 := n0_; have HO439 := n1_; have HB := n2_; clear n0_ n1_ n2_; (try clear hb); (try clear hb2); (try clear hk); (try clear hi); (try clear ho0)) | ((with_reducible refine gate_callee (f := 22) rfl ?_); refine goesL_ (some 37) rfl rfl Try.func22 (by kernel_rfl) rfl #[.slice A0 l0.length c0, .slice Ao27 t432.length co27] rfl (by (try simp only [List.map_toArray, List.map_cons, List.map_nil]); first | done | rfl | (simp only [List.length_drop, List.length_take]; rfl)) ?_; (with_reducible refine (week_And.calls k (fun k_ => k_ < w.heap.size) _ _ l0 (fun k_ => some k_ = (.slice Ao27 t432.length co27 : Value).ownBlock) _ _ t432 t440 t443 _ ?side1 ?side2 A7.out).mono ?_); (case side1 => exact Kd.V_mk HC0.out (Kd.F_below (Kd.C_F k38_heap HR0.out) (by repeat (first | (with_reducible first | exact HB.out | apply below_alloc | apply pw_below_drewN | apply below_drew1) | exact HB.out)))); (case side2 => exact Kd.R_V (Kd.R_tight rfl (HO435.out))); rintro e w29 ⟨v441, rfl, ho0, hb⟩; refine ⟨_, rfl, ?_⟩; have n0_ := Aside0.mk (Kd.R_elder' (by (with_reducible repeat (first | apply Kd.R_alloc | apply Kd.R_drewN | apply Kd.R_drew)); exact HO435.out) (Kd.R_base ho0) hb); have n1_ := Aside0.mk (Kd.R_elder' (by (with_reducible repeat (first | apply Kd.R_alloc | apply Kd.R_drewN | apply Kd.R_drew)); exact HO439.out) (Kd.R_base ho0) hb); have n2_ := Aside0.mk (Kd.R_lower (Kd.R_new' (Kd.R_new' (Kd.R_mono (ok' := fun k_ => True) ho0 (fun _ hk_ => trivial)) (Kd.R_lt (by (with_reducible repeat (first | apply Kd.R_alloc | apply Kd.R_drewN | apply Kd.R_drew)); exact HO435.out))) (Kd.R_lt (by (with_reducible repeat (first | apply Kd.R_alloc | apply Kd.R_drewN | apply Kd.R_drew)); exact HO439.out))) (below_size (by repeat (first | (with_reducible first | exact HB.out | apply below_alloc | apply pw_below_drewN | apply below_drew1) | exact HB.out)))); have n3_ := Aside0.mk (below_step (by repeat (first | (with_reducible first | exact HB.out | apply below_alloc | apply pw_below_drewN | apply below_drew1) | exact HB.out)) hb); clear HO435; clear HO439; clear HB; have HO435 := n0_; have HO439 := n1_; have HO442 := n2_; have HB := n3_; clear n0_ n1_ n2_ n3_; (try clear hb); (try clear hb2); (try clear hk); (try clear hi); (try clear ho0)) | ((with_reducible refine gate_callee (f := 24) rfl ?_); refine goesL_ (some 43) rfl rfl Try.func24 (by kernel_rfl) rfl #[.slice A0 l0.length c0, .slice Ao27 t432.length co27] rfl (by (try simp only [List.map_toArray, List.map_cons, List.map_nil]); first | done | rfl | (simp only [List.length_drop, List.length_take]; rfl)) ?_; (with_reducible refine (week_Or.calls k (fun k_ => k_ < w.heap.size) _ _ l0 (fun k_ => some k_ = (.slice Ao27 t432.length co27 : Value).ownBlock) _ _ t432 t444 t447 _ ?side1 ?side2 A8.out).mono ?_); (case side1 => exact Kd.V_mk HC0.out (Kd.F_below (Kd.C_F k38_heap HR0.out) (by repeat (first | (with_reducible first | exact HB.out | apply below_alloc | apply pw_below_drewN | apply below_drew1) | exact HB.out)))); (case side2 => exact Kd.R_V (Kd.R_tight rfl (HO435.out))); rintro e w30 ⟨v445, rfl, ho0, hb⟩; refine ⟨_, rfl, ?_⟩; have n0_ := Aside0.mk (Kd.R_elder' (by (with_reducible repeat (first | apply Kd.R_alloc | apply Kd.R_drewN | apply Kd.R_drew)); exact HO435.out) (Kd.R_base ho0) hb); have n1_ := Aside0.mk (Kd.R_elder' (by (with_reducible repeat (first | apply Kd.R_alloc | apply Kd.R_drewN | apply Kd.R_drew)); exact HO439.out) (Kd.R_base ho0) hb); have n2_ := Aside0.mk (Kd.R_elder' (by (with_reducible repeat (first | apply Kd.R_alloc | apply Kd.R_drewN | apply Kd.R_drew)); exact HO442.out) (Kd.R_base ho0) hb); have n3_ := Aside0.mk (Kd.R_lower (Kd.R_new' (Kd.R_new' (Kd.R_new' (Kd.R_mono (ok' := fun k_ => True) ho0 (fun _ hk_ => trivial)) (Kd.R_lt (by (with_reducible repeat (first | apply Kd.R_alloc | apply Kd.R_drewN | apply Kd.R_drew)); exact HO435.out))) (Kd.R_lt (by (with_reducible repeat (first | apply Kd.R_alloc | apply Kd.R_drewN | apply Kd.R_drew)); exact HO439.out))) (Kd.R_lt (by (with_reducible repeat (first | apply Kd.R_alloc | apply Kd.R_drewN | apply Kd.R_drew)); exact HO442.out))) (below_size (by repeat (first | (with_reducible first | exact HB.out | apply below_alloc | apply pw_below_drewN | apply below_drew1) | exact HB.out)))); have n4_ := Aside0.mk (below_step (by repeat (first | (with_reducible first | exact HB.out | apply below_alloc | apply pw_below_drewN | apply below_drew1) | exact HB.out)) hb); clear HO435; clear HO439; clear HO442; clear HB; have HO435 := n0_; have HO439 := n1_; have HO442 := n2_; have HO446 := n3_; have HB := n4_; clear n0_ n1_ n2_ n3_ n4_; (try clear hb); (try clear hb2); (try clear hk); (try clear hi); (try clear ho0)) | ((with_reducible refine gate_callee (f := 12) rfl ?_); refine goesL_ (some 48) rfl rfl Try.func12 (by kernel_rfl) rfl #[.slice A0 l0.length c0] rfl (by (try simp only [List.map_toArray, List.map_cons, List.map_nil]); first | done | rfl | (simp only [List.length_drop, List.length_take]; rfl)) ?_; (with_reducible refine (week_Sum.calls k _ _ l0 t448 t449 _ ?side1 ?side2 A9.out).mono ?_); (case side1 => repeat (first | exact (Kd.C_below HR0.out HB.out) | (with_reducible refine Kd.C_alloc ?_ _) | (with_reducible refine Kd.C_drewN ?_ _) | (with_reducible refine Kd.C_drew ?_))); (case side2 => exact HC0.out); rintro e w31 ⟨rfl, hb⟩; refine ⟨_, rfl, ?_⟩; have n0_ := Aside0.mk (Kd.R_below (by (with_reducible repeat (first | apply Kd.R_alloc | apply Kd.R_drewN | apply Kd.R_drew)); exact HO435.out) hb); have n1_ := Aside0.mk (Kd.R_below (by (with_reducible repeat (first | apply Kd.R_alloc | apply Kd.R_drewN | apply Kd.R_drew)); exact HO439.out) hb); have n2_ := Aside0.mk (Kd.R_below (by (with_reducible repeat (first | apply Kd.R_alloc | apply Kd.R_drewN | apply Kd.R_drew)); exact HO442.out) hb); have n3_ := Aside0.mk (Kd.R_below (by (with_reducible repeat (first | apply Kd.R_alloc | apply Kd.R_drewN | apply Kd.R_drew)); exact HO446.out) hb); have n4_ := Aside0.mk (below_step (by repeat (first | (with_reducible first | exact HB.out | apply below_alloc | apply pw_below_drewN | apply below_drew1) | exact HB.out)) hb); clear HO435; clear HO439; clear HO442; clear HO446; clear HB; have HO435 := n0_; have HO439 := n1_; have HO442 := n2_; have HO446 := n3_; have HB := n4_; clear n0_ n1_ n2_ n3_ n4_; (try clear hb); (try clear hb2); (try clear hk); (try clear hi)) | ((with_reducible refine gate_callee (f := 12) rfl ?_); refine goesL_ (some 53) rfl rfl Try.func12 (by kernel_rfl) rfl #[.slice Ao27 t432.length co27] rfl (by (try simp only [List.map_toArray, List.map_cons, List.map_nil]); first | done | rfl | (simp only [List.length_drop, List.length_take]; rfl)) ?_; (with_reducible refine (week_Sum.calls k _ _ t432 t450 t451 _ ?side1 ?side2 A10.out).mono ?_); (case side1 => repeat (first | exact (Kd.R_reads' HO435.out).2.2 | (with_reducible refine Kd.C_alloc ?_ _) | (with_reducible refine Kd.C_drewN ?_ _) | (with_reducible refine Kd.C_drew ?_))); (case side2 => exact (Kd.R_reads' HO435.out).2.1); rintro e w32 ⟨rfl, hb⟩; refine ⟨_, rfl, ?_⟩; have n0_ := Aside0.mk (Kd.R_below (by (with_reducible repeat (first | apply Kd.R_alloc | apply Kd.R_drewN | apply Kd.R_drew)); exact HO435.out) hb); have n1_ := Aside0.mk (Kd.R_below (by (with_reducible repeat (first | apply Kd.R_alloc | apply Kd.R_drewN | apply Kd.R_drew)); exact HO439.out) hb); have n2_ := Aside0.mk (Kd.R_below (by (with_reducible repeat (first | apply Kd.R_alloc | apply Kd.R_drewN | apply Kd.R_drew)); exact HO442.out) hb); have n3_ := Aside0.mk (Kd.R_below (by (with_reducible repeat (first | apply Kd.R_alloc | apply Kd.R_drewN | apply Kd.R_drew)); exact HO446.out) hb); have n4_ := Aside0.mk (below_step (by repeat (first | (with_reducible first | exact HB.out | apply below_alloc | apply pw_below_drewN | apply below_drew1) | exact HB.out)) hb); clear HO435; clear HO439; clear HO442; clear HO446; clear HB; have HO435 := n0_; have HO439 := n1_; have HO442 := n2_; have HO446 := n3_; have HB := n4_; clear n0_ n1_ n2_ n3_ n4_; (try clear hb); (try clear hb2); (try clear hk); (try clear hi)) | ((with_reducible refine gate_callee (f := 8) rfl ?_); refine goesL_ (some 58) rfl rfl Try.func8 (by kernel_rfl) rfl #[.slice A0 l0.length c0] rfl (by (try simp only [List.map_toArray, List.map_cons, List.map_nil]); first | done | rfl | (simp only [List.length_drop, List.length_take]; rfl)) ?_; (with_reducible refine (week_Make.calls k _ _ l0 t452 t453 _ ?side1 ?side2 A11.out).mono ?_); (case side1 => repeat (first | exact (Kd.C_below HR0.out HB.out) | (with_reducible refine Kd.C_alloc ?_ _) | (with_reducible refine Kd.C_drewN ?_ _) | (with_reducible refine Kd.C_drew ?_))); (case side2 => exact HC0.out); rintro e w33 ⟨v454, rfl, ho0, hb⟩; refine ⟨_, rfl, ?_⟩; have n0_ := Aside0.mk (Kd.R_elder' (by (with_reducible repeat (first | apply Kd.R_alloc | apply Kd.R_drewN | apply Kd.R_drew)); exact HO435.out) (Kd.R_base ho0) hb); have n1_ := Aside0.mk (Kd.R_elder' (by (with_reducible repeat (first | apply Kd.R_alloc | apply Kd.R_drewN | apply Kd.R_drew)); exact HO439.out) (Kd.R_base ho0) hb); have n2_ := Aside0.mk (Kd.R_elder' (by (with_reducible repeat (first | apply Kd.R_alloc | apply Kd.R_drewN | apply Kd.R_drew)); exact HO442.out) (Kd.R_base ho0) hb); have n3_ := Aside0.mk (Kd.R_elder' (by (with_reducible repeat (first | apply Kd.R_alloc | apply Kd.R_drewN | apply Kd.R_drew)); exact HO446.out) (Kd.R_base ho0) hb); have n4_ := Aside0.mk (Kd.R_lower (Kd.R_new' (Kd.R_new' (Kd.R_new' (Kd.R_new' ho0 (Kd.R_lt (by (with_reducible repeat (first | apply Kd.R_alloc | apply Kd.R_drewN | apply Kd.R_drew)); exact HO435.out))) (Kd.R_lt (by (with_reducible repeat (first | apply Kd.R_alloc | apply Kd.R_drewN | apply Kd.R_drew)); exact HO439.out))) (Kd.R_lt (by (with_reducible repeat (first | apply Kd.R_alloc | apply Kd.R_drewN | apply Kd.R_drew)); exact HO442.out))) (Kd.R_lt (by (with_reducible repeat (first | apply Kd.R_alloc | apply Kd.R_drewN | apply Kd.R_drew)); exact HO446.out))) (below_size (by repeat (first | (with_reducible first | exact HB.out | apply below_alloc | apply pw_below_drewN | apply below_drew1) | exact HB.out)))); have n5_ := Aside0.mk (below_step (by repeat (first | (with_reducible first | exact HB.out | apply below_alloc | apply pw_below_drewN | apply below_drew1) | exact HB.out)) hb); clear HO435; clear HO439; clear HO442; clear HO446; clear HB; have HO435 := n0_; have HO439 := n1_; have HO442 := n2_; have HO446 := n3_; have HO455 := n4_; have HB := n5_; clear n0_ n1_ n2_ n3_ n4_ n5_; (try clear hb); (try clear hb2); (try clear hk); (try clear hi); (try clear ho0); obtain ⟨Ao34, co34, eo34⟩ := Kd.R_slice HO439.out; subst eo34) | (go_at_call 17; (with_reducible refine (bellmanref07_Same.calls k _ _ t436 _ _ l0 true _ ?side1 ?side2 ?side3 ?side4 A13.out).mono ?_); (case side1 => repeat (first | exact (Kd.R_reads' HO439.out).2.2 | (with_reducible refine Kd.C_alloc ?_ _) | (with_reducible refine Kd.C_drewN ?_ _) | (with_reducible refine Kd.C_drew ?_))); (case side2 => exact (Kd.R_reads' HO439.out).2.1); (case side3 => repeat (first | exact (Kd.C_below HR0.out HB.out) | (with_reducible refine Kd.C_alloc ?_ _) | (with_reducible refine Kd.C_drewN ?_ _) | (with_reducible refine Kd.C_drew ?_))); (case side4 => exact HC0.out); rintro e w' ⟨rfl, ⟨nd, rfl⟩⟩; obtain ⟨Ao35, co35, eo35⟩ := Kd.R_slice HO442.out; subst eo35) | ((with_reducible refine gate_dst (N := 84) rfl ?_); (try (refine gate_guard (by rfl) ?_; dsimp only)); refine Kd.R_lit k38 _ 38 ?hg (N := 84) ?hd (xs := ([(⟨0, 10080⟩ : S38)] : List (S38))) (inner := [.int .i64 0, .int .i64 10080]) (ok := fun _ => True) (okp := fun _ => True) ?hr ?hp (fun _ hk => hk) trivial (Below.refl _ _) (Nat.le_refl _) (by simp) ?_; (case hd => rfl); (case hg => rfl); (case hr => first | (go_simp; done) | (go_simp; rfl)); (case hp => exact (Reps.c2 (show Kd.M k38 _ _ _ (⟨0, 10080⟩ : S38) [.int .i64 0, .int .i64 10080] from (k38_mkM _ _ _ (⟨0, 10080⟩ : S38) )) (Reps.none _ _))); intro v458 w36 ho37 hb hg_ hnew_; clear hg_ hnew_; (first | rw [← Ny457.out] at ho37 | (simp only [Int.reduceToNat] at ho37; rw [← Ny457.out] at ho37)); have n0_ := Aside0.mk (Kd.R_elder' (by (with_reducible repeat (first | apply Kd.R_alloc | apply Kd.R_drewN | apply Kd.R_drew)); exact HO435.out) (Kd.R_base ho37) hb); have n1_ := Aside0.mk (Kd.R_elder' (by (with_reducible repeat (first | apply Kd.R_alloc | apply Kd.R_drewN | apply Kd.R_drew)); exact HO439.out) (Kd.R_base ho37) hb); have n2_ := Aside0.mk (Kd.R_elder' (by (with_reducible repeat (first | apply Kd.R_alloc | apply Kd.R_drewN | apply Kd.R_drew)); exact HO442.out) (Kd.R_base ho37) hb); have n3_ := Aside0.mk (Kd.R_elder' (by (with_reducible repeat (first | apply Kd.R_alloc | apply Kd.R_drewN | apply Kd.R_drew)); exact HO446.out) (Kd.R_base ho37) hb); have n4_ := Aside0.mk (Kd.R_elder' (by (with_reducible repeat (first | apply Kd.R_alloc | apply Kd.R_drewN | apply Kd.R_drew)); exact HO455.out) (Kd.R_base ho37) hb); have n5_ := Aside0.mk (Kd.R_lower (Kd.R_new' (Kd.R_new' (Kd.R_new' (Kd.R_new' (Kd.R_new' ho37 (Kd.R_lt (by (with_reducible repeat (first | apply Kd.R_alloc | apply Kd.R_drewN | apply Kd.R_drew)); exact HO435.out))) (Kd.R_lt (by (with_reducible repeat (first | apply Kd.R_alloc | apply Kd.R_drewN | apply Kd.R_drew)); exact HO439.out))) (Kd.R_lt (by (with_reducible repeat (first | apply Kd.R_alloc | apply Kd.R_drewN | apply Kd.R_drew)); exact HO442.out))) (Kd.R_lt (by (with_reducible repeat (first | apply Kd.R_alloc | apply Kd.R_drewN | apply Kd.R_drew)); exact HO446.out))) (Kd.R_lt (by (with_reducible repeat (first | apply Kd.R_alloc | apply Kd.R_drewN | apply Kd.R_drew)); exact HO455.out))) (below_size (by repeat (first | (with_reducible first | exact HB.out | apply below_alloc | apply pw_below_drewN | apply below_drew1) | exact HB.out)))); have n6_ := Aside0.mk (below_step (by repeat (first | (with_reducible first | exact HB.out | apply below_alloc | apply pw_below_drewN | apply below_drew1) | exact HB.out)) hb); clear HO435; clear HO439; clear HO442; clear HO446; clear HO455; clear HB; have HO435 := n0_; have HO439 := n1_; have HO442 := n2_; have HO446 := n3_; have HO455 := n4_; have HO459 := n5_; have HB := n6_; clear n0_ n1_ n2_ n3_ n4_ n5_ n6_; clear hb ho37; obtain ⟨Ao38, co38, eo38⟩ := Kd.R_slice HO446.out; subst eo38; obtain ⟨Ao39, co39, eo39⟩ := Kd.R_slice HO459.out; subst eo39) | (go_at_call 17; (with_reducible refine (bellmanref07_Same.calls k _ _ t444 _ _ y457 true _ ?side1 ?side2 ?side3 ?side4 A18.out).mono ?_); (case side1 => repeat (first | exact (Kd.R_reads' HO446.out).2.2 | (with_reducible refine Kd.C_alloc ?_ _) | (with_reducible refine Kd.C_drewN ?_ _) | (with_reducible refine Kd.C_drew ?_))); (case side2 => exact (Kd.R_reads' HO446.out).2.1); (case side3 => repeat (first | exact (Kd.R_reads' HO459.out).2.2 | (with_reducible refine Kd.C_alloc ?_ _) | (with_reducible refine Kd.C_drewN ?_ _) | (with_reducible refine Kd.C_drew ?_))); (case side4 => exact (Kd.R_reads' HO459.out).2.1); rintro e w' ⟨rfl, ⟨nd, rfl⟩⟩; obtain ⟨Ao40, co40, eo40⟩ := Kd.R_slice HO455.out; subst eo40) | (go_at_call 17; (with_reducible refine (bellmanref07_Same.calls k _ _ t452 _ _ l0 t461 _ ?side1 ?side2 ?side3 ?side4 A24.out).mono ?_); (case side1 => repeat (first | exact (Kd.R_reads' HO455.out).2.2 | (with_reducible refine Kd.C_alloc ?_ _) | (with_reducible refine Kd.C_drewN ?_ _) | (with_reducible refine Kd.C_drew ?_))); (case side2 => exact (Kd.R_reads' HO455.out).2.1); (case side3 => repeat (first | exact (Kd.C_below HR0.out (by repeat (first | (with_reducible first | exact HB.out | apply below_alloc | apply pw_below_drewN | apply below_drew1) | exact HB.out))) | (with_reducible refine Kd.C_alloc ?_ _) | (with_reducible refine Kd.C_drewN ?_ _) | (with_reducible refine Kd.C_drew ?_))); (case side4 => exact HC0.out); rintro e w' ⟨rfl, ⟨nd, rfl⟩⟩))
             go_ret
             exact ⟨by first | rfl | (simp [errW_none, errW_some] <;> rfl) | (simp [*, errW_none, errW_some] <;> rfl), by repeat (first | (with_reducible first | exact HB.out | apply below_alloc | apply pw_below_drewN | apply below_drew1) | exact HB.out)⟩
            ·rw [if_neg c23] at H
             exact absurd H (by simp)
           ·rw [if_neg c22] at H
            exact absurd H (by simp)
          ·rw [if_neg c21] at H
           exact absurd H (by simp)
         ·rw [if_neg c20] at H
          exact absurd H (by simp)
        ·replace c19 := Bool.eq_false_iff.mpr c19
         subst c19
         have H1 : (none) = some r := by rw [if_neg (show ¬ (false = true) by decide)] at H; exact H
         clear H
         have H := H1
         clear H1
         exact absurd H (by simp)
       ·rw [if_neg c17] at H
        exact absurd H (by simp)
      ·rw [if_neg c16] at H
       exact absurd H (by simp)
     ·rw [if_neg c15] at H
      exact absurd H (by simp)
    ·replace c14 := Bool.eq_false_iff.mpr c14
     subst c14
     have H1 : (none) = some r := by rw [if_neg (show ¬ (false = true) by decide)] at H; exact H
     clear H
     have H := H1
     clear H1
     exact absurd H (by simp)
   ·rw [if_neg c12] at H
    exact absurd H (by simp)
  ·rw [if_neg c5] at H
   have c5b0 : (t433 == 0) = false := beq_eq_false_iff_ne.mpr c5
   have c5b1 : (t433 != 0) = true := bne_iff_ne.mpr c5
   obtain rfl := Option.some.inj H
   go_enter Try.func6, Try.ntmps6
   go_wp2_with (first | ((with_reducible refine gate_callee (f := 16) rfl ?_); refine goesL_ (some 17) rfl rfl Try.func16 (by kernel_rfl) rfl #[] rfl (by (try simp only [List.map_toArray, List.map_cons, List.map_nil]); first | done | rfl | (simp only [List.length_drop, List.length_take]; rfl)) ?_; (with_reducible refine (bellmanlaw07_lives.calls k  true _ A2.out).mono ?_); rintro e w41 ⟨rfl, hb⟩; refine ⟨_, rfl, ?_⟩; have n0_ := Aside0.mk (below_step (by repeat (first | (with_reducible first | exact HB.out | apply below_alloc | apply pw_below_drewN | apply below_drew1) | exact HB.out)) hb); clear HB; have HB := n0_; clear n0_; (try clear hb); (try clear hb2); (try clear hk); (try clear hi)) | ((with_reducible refine gate_callee (f := 20) rfl ?_); refine goesL_ (some 21) rfl rfl Try.func20 (by kernel_rfl) rfl #[.slice A0 l0.length c0] rfl (by (try simp only [List.map_toArray, List.map_cons, List.map_nil]); first | done | rfl | (simp only [List.length_drop, List.length_take]; rfl)) ?_; (with_reducible refine (week_Not.calls k _ _ l0 t432 t433 _ ?side1 ?side2 A4.out).mono ?_); (case side1 => repeat (first | exact (Kd.C_below HR0.out HB.out) | (with_reducible refine Kd.C_alloc ?_ _) | (with_reducible refine Kd.C_drewN ?_ _) | (with_reducible refine Kd.C_drew ?_))); (case side2 => exact HC0.out); rintro e w42 ⟨v434, rfl, ho0, hb⟩; refine ⟨_, rfl, ?_⟩; have n0_ := Aside0.mk (Kd.R_lower ho0 (below_size (by repeat (first | (with_reducible first | exact HB.out | apply below_alloc | apply pw_below_drewN | apply below_drew1) | exact HB.out)))); have n1_ := Aside0.mk (below_step (by repeat (first | (with_reducible first | exact HB.out | apply below_alloc | apply pw_below_drewN | apply below_drew1) | exact HB.out)) hb); clear HB; have HO435 := n0_; have HB := n1_; clear n0_ n1_; (try clear hb); (try clear hb2); (try clear hk); (try clear hi); (try clear ho0); obtain ⟨Ao43, co43, eo43⟩ := Kd.R_slice HO435.out; subst eo43))
   go_ret
   exact ⟨by first | rfl | (simp [errW_none, errW_some] <;> rfl) | (simp [*, errW_none, errW_some] <;> rfl), by repeat (first | (with_reducible first | exact HB.out | apply below_alloc | apply pw_below_drewN | apply below_drew1) | exact HB.out)⟩
 ·replace c3 := Bool.eq_false_iff.mpr c3
  subst c3
  have H1 : (none) = some r := by rw [if_neg (show ¬ (false = true) by decide)] at H; exact H
  clear H
  have H := H1
  clear H1
  exact absurd H (by simp)

end Go.Proofs.Ytlnadfhhgcpkpaa.XW
-- squeezed
