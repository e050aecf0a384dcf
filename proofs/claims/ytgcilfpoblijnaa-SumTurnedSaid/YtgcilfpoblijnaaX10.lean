-- by px.py, a program of this session, over the kit's printer: functions given by hand stand beside printed ones. Lean checks all of it.
import Derived.Test.YtgcilfpoblijnaaX0
import Derived.Test.YtgcilfpoblijnaaX2
import Derived.Test.YtgcilfpoblijnaaX3
import Derived.Test.YtgcilfpoblijnaaX4
import Derived.Test.YtgcilfpoblijnaaX7
import Derived.Test.YtgcilfpoblijnaaX8
import Derived.Test.YtgcilfpoblijnaaX9
import Derived.Laws.IdiomStrings
namespace Go.Proofs.Ytgcilfpoblijnaa.X
open Go.RowKit Go.Proofs.YtgcilfpoblijnaaW.PrintWords Go.Proofs.YtgcilfpoblijnaaW.PrintLast Go.Proofs.YtgcilfpoblijnaaW.PrintMore
attribute [local go_sem] max2_int min2_int max_two min_two max_three min_three max_four min_four   -- for this text's walks alone
set_option linter.unusedVariables false
set_option linter.unusedSimpArgs false

/-! ### bellmanlaw02_SumOn: function 9 -/
def bellmanlaw02_SumOn.f (a0 : ByteArray) (a1 : ByteArray) (a2 : ByteArray) (a3 : Int) : Option (Bool) := (bellmanlaw02_lives.f).bind fun t263 => (if t263 = true then ((sum_On.f a3 a0).bind fun t264 => ((sum_On.f t264 a1).bind fun t265 => (if a0.size + a1.size ≤ 9223372036854775807 then ((sum_On.f a3 (a0 ++ a1)).bind fun t266 => (if t265 = t266 then ((sum_Fold.f (([a0, a1, a2] : List ByteArray))).bind fun t270 => ((sum_Of.f a0).bind fun t271 => ((sum_On.f t271 a1).bind fun t272 => ((sum_On.f t272 a2).bind fun t273 => (if t270 = t273 then ((sum_On.f a3 (⟨#[]⟩ : ByteArray)).bind fun t274 => (some (t274 == a3))) else (some false)))))) else (some false))) else (none)))) else (some false))
set_option maxHeartbeats 8000000 in
set_option maxRecDepth 100000 in
theorem bellmanlaw02_SumOn.calls (a0 : ByteArray) (a1 : ByteArray) (a2 : ByteArray) (a3 : Int) (r : Bool) (w : World) (h : bellmanlaw02_SumOn.f a0 a1 a2 a3 = some r) :
    Calls Try.prog 9 #[.string a0, .string a1, .string a2, .int .u32 a3] w fun e w' => e = .returned (.bool r) ∧ Below w.heap.size w w' := by
  have HB := Aside0.mk (Below.refl w.heap.size w)
  have H : ((bellmanlaw02_lives.f).bind fun t263 => (if t263 = true then ((sum_On.f a3 a0).bind fun t264 => ((sum_On.f t264 a1).bind fun t265 => (if a0.size + a1.size ≤ 9223372036854775807 then ((sum_On.f a3 (a0 ++ a1)).bind fun t266 => (if t265 = t266 then ((sum_Fold.f (([a0, a1, a2] : List ByteArray))).bind fun t270 => ((sum_Of.f a0).bind fun t271 => ((sum_On.f t271 a1).bind fun t272 => ((sum_On.f t272 a2).bind fun t273 => (if t270 = t273 then ((sum_On.f a3 (⟨#[]⟩ : ByteArray)).bind fun t274 => (some (t274 == a3))) else (some false)))))) else (some false))) else (none)))) else (some false))) = some r := h
  clear h
  replace H := Option.bind_eq_some_iff.mp H
  obtain ⟨t263, A50, H⟩ := H
  replace H : (if t263 = true then ((sum_On.f a3 a0).bind fun t264 => ((sum_On.f t264 a1).bind fun t265 => (if a0.size + a1.size ≤ 9223372036854775807 then ((sum_On.f a3 (a0 ++ a1)).bind fun t266 => (if t265 = t266 then ((sum_Fold.f (([a0, a1, a2] : List ByteArray))).bind fun t270 => ((sum_Of.f a0).bind fun t271 => ((sum_On.f t271 a1).bind fun t272 => ((sum_On.f t272 a2).bind fun t273 => (if t270 = t273 then ((sum_On.f a3 (⟨#[]⟩ : ByteArray)).bind fun t274 => (some (t274 == a3))) else (some false)))))) else (some false))) else (none)))) else (some false)) = some r := H
  have A5 := Aside0.mk A50
  clear A50
  by_cases c6 : t263 = true
  · subst c6
    have H1 : ((sum_On.f a3 a0).bind fun t264 => ((sum_On.f t264 a1).bind fun t265 => (if a0.size + a1.size ≤ 9223372036854775807 then ((sum_On.f a3 (a0 ++ a1)).bind fun t266 => (if t265 = t266 then ((sum_Fold.f (([a0, a1, a2] : List ByteArray))).bind fun t270 => ((sum_Of.f a0).bind fun t271 => ((sum_On.f t271 a1).bind fun t272 => ((sum_On.f t272 a2).bind fun t273 => (if t270 = t273 then ((sum_On.f a3 (⟨#[]⟩ : ByteArray)).bind fun t274 => (some (t274 == a3))) else (some false)))))) else (some false))) else (none)))) = some r := by rw [if_pos rfl] at H; exact H
    clear H
    have H := H1
    clear H1
    replace H := Option.bind_eq_some_iff.mp H
    obtain ⟨t264, A70, H⟩ := H
    replace H : ((sum_On.f t264 a1).bind fun t265 => (if a0.size + a1.size ≤ 9223372036854775807 then ((sum_On.f a3 (a0 ++ a1)).bind fun t266 => (if t265 = t266 then ((sum_Fold.f (([a0, a1, a2] : List ByteArray))).bind fun t270 => ((sum_Of.f a0).bind fun t271 => ((sum_On.f t271 a1).bind fun t272 => ((sum_On.f t272 a2).bind fun t273 => (if t270 = t273 then ((sum_On.f a3 (⟨#[]⟩ : ByteArray)).bind fun t274 => (some (t274 == a3))) else (some false)))))) else (some false))) else (none))) = some r := H
    have A7 := Aside0.mk A70
    clear A70
    replace H := Option.bind_eq_some_iff.mp H
    obtain ⟨t265, A80, H⟩ := H
    replace H : (if a0.size + a1.size ≤ 9223372036854775807 then ((sum_On.f a3 (a0 ++ a1)).bind fun t266 => (if t265 = t266 then ((sum_Fold.f (([a0, a1, a2] : List ByteArray))).bind fun t270 => ((sum_Of.f a0).bind fun t271 => ((sum_On.f t271 a1).bind fun t272 => ((sum_On.f t272 a2).bind fun t273 => (if t270 = t273 then ((sum_On.f a3 (⟨#[]⟩ : ByteArray)).bind fun t274 => (some (t274 == a3))) else (some false)))))) else (some false))) else (none)) = some r := H
    have A8 := Aside0.mk A80
    clear A80
    by_cases c9 : a0.size + a1.size ≤ 9223372036854775807
    · rw [if_pos c9] at H
      have c9b0 := eq_true c9
      have c9b1 : decide (a0.size + a1.size ≤ 9223372036854775807) = true := decide_eq_true c9
      try have c9b2 : (9223372036854775807 < a0.size + a1.size) = False := eq_false (Nat.not_lt.2 c9)
      replace H := Option.bind_eq_some_iff.mp H
      obtain ⟨t266, A100, H⟩ := H
      replace H : (if t265 = t266 then ((sum_Fold.f (([a0, a1, a2] : List ByteArray))).bind fun t270 => ((sum_Of.f a0).bind fun t271 => ((sum_On.f t271 a1).bind fun t272 => ((sum_On.f t272 a2).bind fun t273 => (if t270 = t273 then ((sum_On.f a3 (⟨#[]⟩ : ByteArray)).bind fun t274 => (some (t274 == a3))) else (some false)))))) else (some false)) = some r := H
      have A10 := Aside0.mk A100
      clear A100
      by_cases c11 : t265 = t266
      · rw [if_pos c11] at H
        have c11b0 : (t265 == t266) = true := beq_iff_eq.mpr c11
        have c11b1 : (t265 != t266) = false := bne_eq_false_iff_eq.mpr c11
        clear c11
        obtain ⟨y267, hy267⟩ : ∃ y_ : List ByteArray, y_ = (([a0, a1, a2] : List ByteArray)) := ⟨_, rfl⟩
        replace H : ((sum_Fold.f y267).bind fun t270 => ((sum_Of.f a0).bind fun t271 => ((sum_On.f t271 a1).bind fun t272 => ((sum_On.f t272 a2).bind fun t273 => (if t270 = t273 then ((sum_On.f a3 (⟨#[]⟩ : ByteArray)).bind fun t274 => (some (t274 == a3))) else (some false)))))) = some r := by first | (rw [hy267]; with_reducible exact H) | (have H2_ := (Option.bind_some _ _).symm.trans H; rw [hy267]; with_reducible exact H2_) | (have H2_ := (Option.bind_some _ _).symm.trans H; with_reducible exact H2_) | with_reducible exact H | (rw [hy267]; exact H) | exact H
        have Ny267 := Aside0.mk hy267
        clear hy267
        replace H := Option.bind_eq_some_iff.mp H
        obtain ⟨t270, A120, H⟩ := H
        replace H : ((sum_Of.f a0).bind fun t271 => ((sum_On.f t271 a1).bind fun t272 => ((sum_On.f t272 a2).bind fun t273 => (if t270 = t273 then ((sum_On.f a3 (⟨#[]⟩ : ByteArray)).bind fun t274 => (some (t274 == a3))) else (some false))))) = some r := H
        have A12 := Aside0.mk A120
        clear A120
        replace H := Option.bind_eq_some_iff.mp H
        obtain ⟨t271, A130, H⟩ := H
        replace H : ((sum_On.f t271 a1).bind fun t272 => ((sum_On.f t272 a2).bind fun t273 => (if t270 = t273 then ((sum_On.f a3 (⟨#[]⟩ : ByteArray)).bind fun t274 => (some (t274 == a3))) else (some false)))) = some r := H
        have A13 := Aside0.mk A130
        clear A130
        replace H := Option.bind_eq_some_iff.mp H
        obtain ⟨t272, A140, H⟩ := H
        replace H : ((sum_On.f t272 a2).bind fun t273 => (if t270 = t273 then ((sum_On.f a3 (⟨#[]⟩ : ByteArray)).bind fun t274 => (some (t274 == a3))) else (some false))) = some r := H
        have A14 := Aside0.mk A140
        clear A140
        replace H := Option.bind_eq_some_iff.mp H
        obtain ⟨t273, A150, H⟩ := H
        replace H : (if t270 = t273 then ((sum_On.f a3 (⟨#[]⟩ : ByteArray)).bind fun t274 => (some (t274 == a3))) else (some false)) = some r := H
        have A15 := Aside0.mk A150
        clear A150
        by_cases c16 : t270 = t273
        · rw [if_pos c16] at H
          have c16b0 : (t270 == t273) = true := beq_iff_eq.mpr c16
          have c16b1 : (t270 != t273) = false := bne_eq_false_iff_eq.mpr c16
          clear c16
          replace H := Option.bind_eq_some_iff.mp H
          obtain ⟨t274, A170, H⟩ := H
          replace H : (some (t274 == a3)) = some r := H
          have A17 := Aside0.mk A170
          clear A170
          obtain rfl := Option.some.inj H
          go_enter Try.func9, Try.ntmps9
          go_wp2_with (first | ((with_reducible refine gate_callee (f := 29) rfl ?_); refine goesL_ (some 9) rfl rfl Try.func29 (by kernel_rfl) rfl #[] rfl (by (try simp only [List.map_toArray, List.map_cons, List.map_nil]); first | done | rfl | (simp only [List.length_drop, List.length_take]; rfl)) ?_; (with_reducible refine (bellmanlaw02_lives.calls  true _ A5.out).mono ?_); rintro e w18 ⟨rfl, hb⟩; refine ⟨_, rfl, ?_⟩; have n0_ := Aside0.mk (below_step (by repeat (first | (with_reducible first | exact HB.out | apply below_alloc | apply pw_below_drewN | apply below_drew1) | exact HB.out)) hb); clear HB; have HB := n0_; clear n0_; (try clear hb); (try clear hb2); (try clear hk); (try clear hi)) | ((with_reducible refine gate_callee (f := 32) rfl ?_); refine goesL_ (some 13) rfl rfl Try.func32 (by kernel_rfl) rfl #[.int .u32 a3, .string a0] rfl (by (try simp only [List.map_toArray, List.map_cons, List.map_nil]); first | done | rfl | (simp only [List.length_drop, List.length_take]; rfl)) ?_; (with_reducible refine (sum_On.calls a3 a0 t264 _ A7.out).mono ?_); rintro e w19 ⟨rfl, hb⟩; refine ⟨_, rfl, ?_⟩; have n0_ := Aside0.mk (below_step (by repeat (first | (with_reducible first | exact HB.out | apply below_alloc | apply pw_below_drewN | apply below_drew1) | exact HB.out)) hb); clear HB; have HB := n0_; clear n0_; (try clear hb); (try clear hb2); (try clear hk); (try clear hi)) | ((with_reducible refine gate_callee (f := 32) rfl ?_); refine goesL_ (some 15) rfl rfl Try.func32 (by kernel_rfl) rfl #[.int .u32 t264, .string a1] rfl (by (try simp only [List.map_toArray, List.map_cons, List.map_nil]); first | done | rfl | (simp only [List.length_drop, List.length_take]; rfl)) ?_; (with_reducible refine (sum_On.calls t264 a1 t265 _ A8.out).mono ?_); rintro e w20 ⟨rfl, hb⟩; refine ⟨_, rfl, ?_⟩; have n0_ := Aside0.mk (below_step (by repeat (first | (with_reducible first | exact HB.out | apply below_alloc | apply pw_below_drewN | apply below_drew1) | exact HB.out)) hb); clear HB; have HB := n0_; clear n0_; (try clear hb); (try clear hb2); (try clear hk); (try clear hi)) | ((with_reducible refine gate_callee (f := 32) rfl ?_); refine goesL_ (some 20) rfl rfl Try.func32 (by kernel_rfl) rfl #[.int .u32 a3, .string (a0 ++ a1)] rfl (by (try simp only [List.map_toArray, List.map_cons, List.map_nil]); first | done | rfl | (simp only [List.length_drop, List.length_take]; rfl)) ?_; (with_reducible refine (sum_On.calls a3 (a0 ++ a1) t266 _ A10.out).mono ?_); rintro e w21 ⟨rfl, hb⟩; refine ⟨_, rfl, ?_⟩; have n0_ := Aside0.mk (below_step (by repeat (first | (with_reducible first | exact HB.out | apply below_alloc | apply pw_below_drewN | apply below_drew1) | exact HB.out)) hb); clear HB; have HB := n0_; clear n0_; (try clear hb); (try clear hb2); (try clear hk); (try clear hi)) | ((with_reducible refine gate_dst (N := 26) rfl ?_); (try (refine gate_guard (by rfl) ?_; dsimp only)); refine Kd.R_lit Kd.string _ 9 ?hg (N := 26) ?hd (xs := ([a0, a1, a2] : List ByteArray)) (inner := [.string a0, .string a1, .string a2]) (ok := fun _ => True) (okp := fun _ => True) ?hr ?hp (fun _ hk => hk) trivial (Below.refl _ _) (Nat.le_refl _) (by simp) ?_; (case hd => rfl); (case hg => rfl); (case hr => first | (go_simp; done) | (go_simp; rfl)); (case hp => exact (Reps.one (show Kd.M Kd.string _ _ _ a0 [.string a0] from rfl) (Reps.one (show Kd.M Kd.string _ _ _ a1 [.string a1] from rfl) (Reps.one (show Kd.M Kd.string _ _ _ a2 [.string a2] from rfl) (Reps.none _ _))))); intro v268 w22 ho23 hb hg_ hnew_; clear hg_ hnew_; (first | rw [← Ny267.out] at ho23 | (simp only [Int.reduceToNat] at ho23; rw [← Ny267.out] at ho23)); have n0_ := Aside0.mk (Kd.R_lower ho23 (below_size (by repeat (first | (with_reducible first | exact HB.out | apply below_alloc | apply pw_below_drewN | apply below_drew1) | exact HB.out)))); have n1_ := Aside0.mk (below_step (by repeat (first | (with_reducible first | exact HB.out | apply below_alloc | apply pw_below_drewN | apply below_drew1) | exact HB.out)) hb); clear HB; have HO269 := n0_; have HB := n1_; clear n0_ n1_; clear hb ho23; obtain ⟨Ao24, co24, eo24⟩ := Kd.R_slice HO269.out; subst eo24) | (go_at_call 34; (with_reducible refine (sum_Fold.calls _ _ y267 t270 _ ?side1 ?side2 A12.out).mono ?_); (case side1 => repeat (first | exact (Kd.R_reads' HO269.out).2.2 | (with_reducible refine Kd.C_alloc ?_ _) | (with_reducible refine Kd.C_drewN ?_ _) | (with_reducible refine Kd.C_drew ?_))); (case side2 => exact (Kd.R_reads' HO269.out).2.1); rintro e w25 ⟨rfl, hb⟩; have n0_ := Aside0.mk (Kd.R_below (by (with_reducible repeat (first | apply Kd.R_alloc | apply Kd.R_drewN | apply Kd.R_drew)); exact HO269.out) hb); have n1_ := Aside0.mk (below_step (by repeat (first | (with_reducible first | exact HB.out | apply below_alloc | apply pw_below_drewN | apply below_drew1) | exact HB.out)) hb); clear HO269; clear HB; have HO269 := n0_; have HB := n1_; clear n0_ n1_; (try clear hb); (try clear hb2); (try clear hk); (try clear hi)) | (go_at_call 30; (with_reducible refine (sum_Of.calls a0 t271 _ A13.out).mono ?_); rintro e w26 ⟨rfl, hb⟩; have n0_ := Aside0.mk (Kd.R_below (by (with_reducible repeat (first | apply Kd.R_alloc | apply Kd.R_drewN | apply Kd.R_drew)); exact HO269.out) hb); have n1_ := Aside0.mk (below_step (by repeat (first | (with_reducible first | exact HB.out | apply below_alloc | apply pw_below_drewN | apply below_drew1) | exact HB.out)) hb); clear HO269; clear HB; have HO269 := n0_; have HB := n1_; clear n0_ n1_; (try clear hb); (try clear hb2); (try clear hk); (try clear hi)) | (go_at_call 32; (with_reducible refine (sum_On.calls t271 a1 t272 _ A14.out).mono ?_); rintro e w27 ⟨rfl, hb⟩; have n0_ := Aside0.mk (Kd.R_below (by (with_reducible repeat (first | apply Kd.R_alloc | apply Kd.R_drewN | apply Kd.R_drew)); exact HO269.out) hb); have n1_ := Aside0.mk (below_step (by repeat (first | (with_reducible first | exact HB.out | apply below_alloc | apply pw_below_drewN | apply below_drew1) | exact HB.out)) hb); clear HO269; clear HB; have HO269 := n0_; have HB := n1_; clear n0_ n1_; (try clear hb); (try clear hb2); (try clear hk); (try clear hi)) | (go_at_call 32; (with_reducible refine (sum_On.calls t272 a2 t273 _ A15.out).mono ?_); rintro e w28 ⟨rfl, hb⟩; have n0_ := Aside0.mk (Kd.R_below (by (with_reducible repeat (first | apply Kd.R_alloc | apply Kd.R_drewN | apply Kd.R_drew)); exact HO269.out) hb); have n1_ := Aside0.mk (below_step (by repeat (first | (with_reducible first | exact HB.out | apply below_alloc | apply pw_below_drewN | apply below_drew1) | exact HB.out)) hb); clear HO269; clear HB; have HO269 := n0_; have HB := n1_; clear n0_ n1_; (try clear hb); (try clear hb2); (try clear hk); (try clear hi)) | (go_at_call 32; (with_reducible refine (sum_On.calls a3 (⟨#[]⟩ : ByteArray) t274 _ A17.out).mono ?_); rintro e w29 ⟨rfl, hb⟩; have n0_ := Aside0.mk (Kd.R_below (by (with_reducible repeat (first | apply Kd.R_alloc | apply Kd.R_drewN | apply Kd.R_drew)); exact HO269.out) hb); have n1_ := Aside0.mk (below_step (by repeat (first | (with_reducible first | exact HB.out | apply below_alloc | apply pw_below_drewN | apply below_drew1) | exact HB.out)) hb); clear HO269; clear HB; have HO269 := n0_; have HB := n1_; clear n0_ n1_; (try clear hb); (try clear hb2); (try clear hk); (try clear hi)))
          go_ret
          exact ⟨by first | rfl | (simp [errW_none, errW_some] <;> rfl) | (simp [*, errW_none, errW_some] <;> rfl), by repeat (first | (with_reducible first | exact HB.out | apply below_alloc | apply pw_below_drewN | apply below_drew1) | exact HB.out)⟩
        · rw [if_neg c16] at H
          have c16b0 : (t270 == t273) = false := beq_eq_false_iff_ne.mpr c16
          have c16b1 : (t270 != t273) = true := bne_iff_ne.mpr c16
          obtain rfl := Option.some.inj H
          go_enter Try.func9, Try.ntmps9
          go_wp2_with (first | ((with_reducible refine gate_callee (f := 29) rfl ?_); refine goesL_ (some 9) rfl rfl Try.func29 (by kernel_rfl) rfl #[] rfl (by (try simp only [List.map_toArray, List.map_cons, List.map_nil]); first | done | rfl | (simp only [List.length_drop, List.length_take]; rfl)) ?_; (with_reducible refine (bellmanlaw02_lives.calls  true _ A5.out).mono ?_); rintro e w30 ⟨rfl, hb⟩; refine ⟨_, rfl, ?_⟩; have n0_ := Aside0.mk (below_step (by repeat (first | (with_reducible first | exact HB.out | apply below_alloc | apply pw_below_drewN | apply below_drew1) | exact HB.out)) hb); clear HB; have HB := n0_; clear n0_; (try clear hb); (try clear hb2); (try clear hk); (try clear hi)) | ((with_reducible refine gate_callee (f := 32) rfl ?_); refine goesL_ (some 13) rfl rfl Try.func32 (by kernel_rfl) rfl #[.int .u32 a3, .string a0] rfl (by (try simp only [List.map_toArray, List.map_cons, List.map_nil]); first | done | rfl | (simp only [List.length_drop, List.length_take]; rfl)) ?_; (with_reducible refine (sum_On.calls a3 a0 t264 _ A7.out).mono ?_); rintro e w31 ⟨rfl, hb⟩; refine ⟨_, rfl, ?_⟩; have n0_ := Aside0.mk (below_step (by repeat (first | (with_reducible first | exact HB.out | apply below_alloc | apply pw_below_drewN | apply below_drew1) | exact HB.out)) hb); clear HB; have HB := n0_; clear n0_; (try clear hb); (try clear hb2); (try clear hk); (try clear hi)) | ((with_reducible refine gate_callee (f := 32) rfl ?_); refine goesL_ (some 15) rfl rfl Try.func32 (by kernel_rfl) rfl #[.int .u32 t264, .string a1] rfl (by (try simp only [List.map_toArray, List.map_cons, List.map_nil]); first | done | rfl | (simp only [List.length_drop, List.length_take]; rfl)) ?_; (with_reducible refine (sum_On.calls t264 a1 t265 _ A8.out).mono ?_); rintro e w32 ⟨rfl, hb⟩; refine ⟨_, rfl, ?_⟩; have n0_ := Aside0.mk (below_step (by repeat (first | (with_reducible first | exact HB.out | apply below_alloc | apply pw_below_drewN | apply below_drew1) | exact HB.out)) hb); clear HB; have HB := n0_; clear n0_; (try clear hb); (try clear hb2); (try clear hk); (try clear hi)) | ((with_reducible refine gate_callee (f := 32) rfl ?_); refine goesL_ (some 20) rfl rfl Try.func32 (by kernel_rfl) rfl #[.int .u32 a3, .string (a0 ++ a1)] rfl (by (try simp only [List.map_toArray, List.map_cons, List.map_nil]); first | done | rfl | (simp only [List.length_drop, List.length_take]; rfl)) ?_; (with_reducible refine (sum_On.calls a3 (a0 ++ a1) t266 _ A10.out).mono ?_); rintro e w33 ⟨rfl, hb⟩; refine ⟨_, rfl, ?_⟩; have n0_ := Aside0.mk (below_step (by repeat (first | (with_reducible first | exact HB.out | apply below_alloc | apply pw_below_drewN | apply below_drew1) | exact HB.out)) hb); clear HB; have HB := n0_; clear n0_; (try clear hb); (try clear hb2); (try clear hk); (try clear hi)) | ((with_reducible refine gate_dst (N := 26) rfl ?_); (try (refine gate_guard (by rfl) ?_; dsimp only)); refine Kd.R_lit Kd.string _ 9 ?hg (N := 26) ?hd (xs := ([a0, a1, a2] : List ByteArray)) (inner := [.string a0, .string a1, .string a2]) (ok := fun _ => True) (okp := fun _ => True) ?hr ?hp (fun _ hk => hk) trivial (Below.refl _ _) (Nat.le_refl _) (by simp) ?_; (case hd => rfl); (case hg => rfl); (case hr => first | (go_simp; done) | (go_simp; rfl)); (case hp => exact (Reps.one (show Kd.M Kd.string _ _ _ a0 [.string a0] from rfl) (Reps.one (show Kd.M Kd.string _ _ _ a1 [.string a1] from rfl) (Reps.one (show Kd.M Kd.string _ _ _ a2 [.string a2] from rfl) (Reps.none _ _))))); intro v268 w34 ho35 hb hg_ hnew_; clear hg_ hnew_; (first | rw [← Ny267.out] at ho35 | (simp only [Int.reduceToNat] at ho35; rw [← Ny267.out] at ho35)); have n0_ := Aside0.mk (Kd.R_lower ho35 (below_size (by repeat (first | (with_reducible first | exact HB.out | apply below_alloc | apply pw_below_drewN | apply below_drew1) | exact HB.out)))); have n1_ := Aside0.mk (below_step (by repeat (first | (with_reducible first | exact HB.out | apply below_alloc | apply pw_below_drewN | apply below_drew1) | exact HB.out)) hb); clear HB; have HO269 := n0_; have HB := n1_; clear n0_ n1_; clear hb ho35; obtain ⟨Ao36, co36, eo36⟩ := Kd.R_slice HO269.out; subst eo36) | (go_at_call 34; (with_reducible refine (sum_Fold.calls _ _ y267 t270 _ ?side1 ?side2 A12.out).mono ?_); (case side1 => repeat (first | exact (Kd.R_reads' HO269.out).2.2 | (with_reducible refine Kd.C_alloc ?_ _) | (with_reducible refine Kd.C_drewN ?_ _) | (with_reducible refine Kd.C_drew ?_))); (case side2 => exact (Kd.R_reads' HO269.out).2.1); rintro e w37 ⟨rfl, hb⟩; have n0_ := Aside0.mk (Kd.R_below (by (with_reducible repeat (first | apply Kd.R_alloc | apply Kd.R_drewN | apply Kd.R_drew)); exact HO269.out) hb); have n1_ := Aside0.mk (below_step (by repeat (first | (with_reducible first | exact HB.out | apply below_alloc | apply pw_below_drewN | apply below_drew1) | exact HB.out)) hb); clear HO269; clear HB; have HO269 := n0_; have HB := n1_; clear n0_ n1_; (try clear hb); (try clear hb2); (try clear hk); (try clear hi)) | (go_at_call 30; (with_reducible refine (sum_Of.calls a0 t271 _ A13.out).mono ?_); rintro e w38 ⟨rfl, hb⟩; have n0_ := Aside0.mk (Kd.R_below (by (with_reducible repeat (first | apply Kd.R_alloc | apply Kd.R_drewN | apply Kd.R_drew)); exact HO269.out) hb); have n1_ := Aside0.mk (below_step (by repeat (first | (with_reducible first | exact HB.out | apply below_alloc | apply pw_below_drewN | apply below_drew1) | exact HB.out)) hb); clear HO269; clear HB; have HO269 := n0_; have HB := n1_; clear n0_ n1_; (try clear hb); (try clear hb2); (try clear hk); (try clear hi)) | (go_at_call 32; (with_reducible refine (sum_On.calls t271 a1 t272 _ A14.out).mono ?_); rintro e w39 ⟨rfl, hb⟩; have n0_ := Aside0.mk (Kd.R_below (by (with_reducible repeat (first | apply Kd.R_alloc | apply Kd.R_drewN | apply Kd.R_drew)); exact HO269.out) hb); have n1_ := Aside0.mk (below_step (by repeat (first | (with_reducible first | exact HB.out | apply below_alloc | apply pw_below_drewN | apply below_drew1) | exact HB.out)) hb); clear HO269; clear HB; have HO269 := n0_; have HB := n1_; clear n0_ n1_; (try clear hb); (try clear hb2); (try clear hk); (try clear hi)) | (go_at_call 32; (with_reducible refine (sum_On.calls t272 a2 t273 _ A15.out).mono ?_); rintro e w40 ⟨rfl, hb⟩; have n0_ := Aside0.mk (Kd.R_below (by (with_reducible repeat (first | apply Kd.R_alloc | apply Kd.R_drewN | apply Kd.R_drew)); exact HO269.out) hb); have n1_ := Aside0.mk (below_step (by repeat (first | (with_reducible first | exact HB.out | apply below_alloc | apply pw_below_drewN | apply below_drew1) | exact HB.out)) hb); clear HO269; clear HB; have HO269 := n0_; have HB := n1_; clear n0_ n1_; (try clear hb); (try clear hb2); (try clear hk); (try clear hi)))
          go_ret
          exact ⟨by first | rfl | (simp [errW_none, errW_some] <;> rfl) | (simp [*, errW_none, errW_some] <;> rfl), by repeat (first | (with_reducible first | exact HB.out | apply below_alloc | apply pw_below_drewN | apply below_drew1) | exact HB.out)⟩
      · rw [if_neg c11] at H
        have c11b0 : (t265 == t266) = false := beq_eq_false_iff_ne.mpr c11
        have c11b1 : (t265 != t266) = true := bne_iff_ne.mpr c11
        obtain rfl := Option.some.inj H
        go_enter Try.func9, Try.ntmps9
        go_wp2_with (first | ((with_reducible refine gate_callee (f := 29) rfl ?_); refine goesL_ (some 9) rfl rfl Try.func29 (by kernel_rfl) rfl #[] rfl (by (try simp only [List.map_toArray, List.map_cons, List.map_nil]); first | done | rfl | (simp only [List.length_drop, List.length_take]; rfl)) ?_; (with_reducible refine (bellmanlaw02_lives.calls  true _ A5.out).mono ?_); rintro e w41 ⟨rfl, hb⟩; refine ⟨_, rfl, ?_⟩; have n0_ := Aside0.mk (below_step (by repeat (first | (with_reducible first | exact HB.out | apply below_alloc | apply pw_below_drewN | apply below_drew1) | exact HB.out)) hb); clear HB; have HB := n0_; clear n0_; (try clear hb); (try clear hb2); (try clear hk); (try clear hi)) | ((with_reducible refine gate_callee (f := 32) rfl ?_); refine goesL_ (some 13) rfl rfl Try.func32 (by kernel_rfl) rfl #[.int .u32 a3, .string a0] rfl (by (try simp only [List.map_toArray, List.map_cons, List.map_nil]); first | done | rfl | (simp only [List.length_drop, List.length_take]; rfl)) ?_; (with_reducible refine (sum_On.calls a3 a0 t264 _ A7.out).mono ?_); rintro e w42 ⟨rfl, hb⟩; refine ⟨_, rfl, ?_⟩; have n0_ := Aside0.mk (below_step (by repeat (first | (with_reducible first | exact HB.out | apply below_alloc | apply pw_below_drewN | apply below_drew1) | exact HB.out)) hb); clear HB; have HB := n0_; clear n0_; (try clear hb); (try clear hb2); (try clear hk); (try clear hi)) | ((with_reducible refine gate_callee (f := 32) rfl ?_); refine goesL_ (some 15) rfl rfl Try.func32 (by kernel_rfl) rfl #[.int .u32 t264, .string a1] rfl (by (try simp only [List.map_toArray, List.map_cons, List.map_nil]); first | done | rfl | (simp only [List.length_drop, List.length_take]; rfl)) ?_; (with_reducible refine (sum_On.calls t264 a1 t265 _ A8.out).mono ?_); rintro e w43 ⟨rfl, hb⟩; refine ⟨_, rfl, ?_⟩; have n0_ := Aside0.mk (below_step (by repeat (first | (with_reducible first | exact HB.out | apply below_alloc | apply pw_below_drewN | apply below_drew1) | exact HB.out)) hb); clear HB; have HB := n0_; clear n0_; (try clear hb); (try clear hb2); (try clear hk); (try clear hi)) | ((with_reducible refine gate_callee (f := 32) rfl ?_); refine goesL_ (some 20) rfl rfl Try.func32 (by kernel_rfl) rfl #[.int .u32 a3, .string (a0 ++ a1)] rfl (by (try simp only [List.map_toArray, List.map_cons, List.map_nil]); first | done | rfl | (simp only [List.length_drop, List.length_take]; rfl)) ?_; (with_reducible refine (sum_On.calls a3 (a0 ++ a1) t266 _ A10.out).mono ?_); rintro e w44 ⟨rfl, hb⟩; refine ⟨_, rfl, ?_⟩; have n0_ := Aside0.mk (below_step (by repeat (first | (with_reducible first | exact HB.out | apply below_alloc | apply pw_below_drewN | apply below_drew1) | exact HB.out)) hb); clear HB; have HB := n0_; clear n0_; (try clear hb); (try clear hb2); (try clear hk); (try clear hi)))
        go_ret
        exact ⟨by first | rfl | (simp [errW_none, errW_some] <;> rfl) | (simp [*, errW_none, errW_some] <;> rfl), by repeat (first | (with_reducible first | exact HB.out | apply below_alloc | apply pw_below_drewN | apply below_drew1) | exact HB.out)⟩
    · rw [if_neg c9] at H
      exact absurd H (by simp)
  · replace c6 := Bool.eq_false_iff.mpr c6
    subst c6
    have H1 : (some false) = some r := by rw [if_neg (show ¬ (false = true) by decide)] at H; exact H
    clear H
    have H := H1
    clear H1
    obtain rfl := Option.some.inj H
    go_enter Try.func9, Try.ntmps9
    go_wp2_with (first | ((with_reducible refine gate_callee (f := 29) rfl ?_); refine goesL_ (some 9) rfl rfl Try.func29 (by kernel_rfl) rfl #[] rfl (by (try simp only [List.map_toArray, List.map_cons, List.map_nil]); first | done | rfl | (simp only [List.length_drop, List.length_take]; rfl)) ?_; (with_reducible refine (bellmanlaw02_lives.calls  false _ A5.out).mono ?_); rintro e w45 ⟨rfl, hb⟩; refine ⟨_, rfl, ?_⟩; have n0_ := Aside0.mk (below_step (by repeat (first | (with_reducible first | exact HB.out | apply below_alloc | apply pw_below_drewN | apply below_drew1) | exact HB.out)) hb); clear HB; have HB := n0_; clear n0_; (try clear hb); (try clear hb2); (try clear hk); (try clear hi)))
    go_ret
    exact ⟨by first | rfl | (simp [errW_none, errW_some] <;> rfl) | (simp [*, errW_none, errW_some] <;> rfl), by repeat (first | (with_reducible first | exact HB.out | apply below_alloc | apply pw_below_drewN | apply below_drew1) | exact HB.out)⟩

/-- THE ONE PURE STATEMENT of bellmanlaw02_SumOn: yours. -/
def bellmanlaw02_SumOn.Pure : Prop := ∀ (a0 : ByteArray) (a1 : ByteArray) (a2 : ByteArray) (a3 : Int), a0.size ≤ 140737488351232 → a1.size ≤ 140737488351232 → a2.size ≤ 140737488351232 → (Lit.int .u32 a3).wf = true → bellmanlaw02_SumOn.f a0 a1 a2 a3 = some true
theorem bellmanlaw02_SumOn.walk (P : bellmanlaw02_SumOn.Pure) (a0 : ByteArray) (a1 : ByteArray) (a2 : ByteArray) (a3 : Int) (w : World) (w0 : a0.size ≤ 140737488351232) (w1 : a1.size ≤ 140737488351232) (w2 : a2.size ≤ 140737488351232) (w3 : (Lit.int .u32 a3).wf = true) :
    Calls Try.prog 9 #[.string a0, .string a1, .string a2, .int .u32 a3] w fun e w' => e = .returned (.bool true) ∧ Below w.heap.size w w' := by
  have h := P a0 a1 a2 a3 w0 w1 w2 w3
  refine (bellmanlaw02_SumOn.calls a0 a1 a2 a3 true w h).mono ?_
  rintro e w' ⟨rfl, hd⟩
  exact ⟨rfl, hd⟩

-- PXIMPORT Derived.Laws.IdiomStrings
/-! ### bellmanlaw02_SumTurned: function 10, by hand -/
/-- The text of which one byte is another. -/
def bellmanlaw02_SumTurned.l (s : ByteArray) (at_ b : Int) : List UInt8 := s.data.toList.set at_.toNat (UInt8.ofNat (Go.bits .xor .u8 (bt s at_) b).toNat)
def bellmanlaw02_SumTurned.t (s : ByteArray) (at_ b : Int) : ByteArray := ⟨(bellmanlaw02_SumTurned.l s at_ b).toArray⟩
def bellmanlaw02_SumTurned.f (a0 : ByteArray) (a1 : Int) (a2 : Int) : Option (Bool) :=
  if a0.size ≤ 140737488351232 ∧ bellmanlaw02_lives.f = some true then
    if a2 = 0 ∨ a1 < 0 ∨ (a0.size : Int) ≤ a1 then some true
    else (sum_Frame.f a0).bind fun p => (sum_Of.f a0).bind fun o1 => (sum_Of.f (bellmanlaw02_SumTurned.t a0 a1 a2)).bind fun o2 =>
      if p.2 = 0 then
        if a0.size ≤ p.1.size ∧ p.1.size ≤ 140737488361232 then
          (sum_Next.f (p.1.extract 0 (p.1.size - a0.size) ++ bellmanlaw02_SumTurned.t a0 a1 a2)).bind fun q => some (o1 != o2 && q.2.2 == 6)
        else none
      else some (o1 != o2)
  else none
theorem bellmanlaw02_SumTurned.row_size (s : ByteArray) (c : Nat) (i : Nat) (hi : i < s.size) : i < (bytesRow s c).size := by
  unfold bytesRow
  rw [Array.size_append, Array.size_map]
  have : s.data.size = s.size := rfl
  omega
theorem bellmanlaw02_SumTurned.row_get (s : ByteArray) (c : Nat) (i : Nat) (hi : i < s.size) : (bytesRow s c)[i]? = some (.int .u8 (bt s (i : Int))) := by
  have h : i < s.data.size := hi
  have h2 : ((i : Int)).toNat < s.size := by rw [Int.toNat_natCast]; exact hi
  unfold bytesRow bt
  rw [Array.getElem?_append_left (by rw [Array.size_map]; exact hi), Array.getElem?_map, dif_pos h2, Array.getElem?_eq_getElem h]
  rfl
theorem bellmanlaw02_SumTurned.xor_range (x y : Int) : 0 ≤ Go.bits .xor .u8 x y ∧ Go.bits .xor .u8 x y < 256 := by
  show 0 ≤ IntKind.u8.wrap (((BitVec.ofInt 8 x ^^^ BitVec.ofInt 8 y).toNat : Nat) : Int) ∧ IntKind.u8.wrap (((BitVec.ofInt 8 x ^^^ BitVec.ofInt 8 y).toNat : Nat) : Int) < 256
  rw [IntKind.wrap_u8]
  omega
theorem bellmanlaw02_SumTurned.l_len (s : ByteArray) (a b : Int) : (bellmanlaw02_SumTurned.l s a b).length = s.size := by
  unfold bellmanlaw02_SumTurned.l
  rw [List.length_set, Array.length_toList]; rfl
theorem bellmanlaw02_SumTurned.l_get (s : ByteArray) (i : Nat) (b : Int) (cap j : Nat) (hi : i < s.size) (hj : j < (bellmanlaw02_SumTurned.l s (i : Int) b).length) :
    ((bytesRow s cap).setIfInBounds i (.int .u8 (Go.bits .xor .u8 (bt s (i : Int)) b)))[j]? = some (.int .u8 (((bellmanlaw02_SumTurned.l s (i : Int) b)[j]).toNat : Int)) := by
  have hj2 : j < s.size := by rw [bellmanlaw02_SumTurned.l_len] at hj; exact hj
  rw [Array.getElem?_setIfInBounds]
  have hx := bellmanlaw02_SumTurned.xor_range (bt s (i : Int)) b
  unfold bellmanlaw02_SumTurned.l
  simp only [Int.toNat_natCast]
  by_cases h : i = j
  · subst h
    rw [if_pos rfl, if_pos (bellmanlaw02_SumTurned.row_size s cap i hi), List.getElem_set_self]
    congr 2
    generalize Go.bits .xor .u8 (bt s (i : Int)) b = x at hx ⊢
    rw [UInt8.toNat_ofNat']
    omega
  · rw [if_neg h, bellmanlaw02_SumTurned.row_get s cap j hj2, List.getElem_set_ne h]
    congr 2
    have h2 : ((j : Int)).toNat < s.size := by rw [Int.toNat_natCast]; exact hj2
    unfold bt
    rw [dif_pos h2]
    rfl
set_option maxHeartbeats 4000000 in
set_option maxRecDepth 100000 in
theorem bellmanlaw02_SumTurned.calls (a0 : ByteArray) (a1 : Int) (a2 : Int) (r : Bool) (w : World) (h : bellmanlaw02_SumTurned.f a0 a1 a2 = some r) :
    Calls Try.prog 10 #[.string a0, .int .i64 a1, .int .u8 a2] w fun e w' => e = .returned (.bool r) ∧ Below w.heap.size w w' := by
  unfold bellmanlaw02_SumTurned.f at h
  split at h
  rotate_left
  · cases h
  rename_i hc
  obtain ⟨hsz, hl⟩ := hc
  have HL := Lib.hid hl; clear hl
  split at h
  · rename_i hc
    obtain rfl := Option.some.inj h
    have HC := Lib.hid hc; clear hc
    have hcs : (a2 = 0) ∨ (¬ a2 = 0 ∧ a1 < 0) ∨ (¬ a2 = 0 ∧ ¬ a1 < 0 ∧ (a0.size : Int) ≤ a1) := by have := HC.out; omega
    clear HC
    go_enter Try.func10, Try.ntmps10
    rcases hcs with c1 | ⟨c1, c2⟩ | ⟨c1, c2, c3⟩
    · have f1 := eq_true c1
      have f2 : (a2 == 0) = true := beq_iff_eq.mpr c1
      go_wp2_with (go_at_call 29; refine (bellmanlaw02_lives.calls true _ HL.out).mono ?_; rintro e w1 ⟨rfl, hd⟩)
      go_ret
      exact ⟨rfl, hd⟩
    · have f1 := eq_false c1
      have f2 : (a2 == 0) = false := beq_eq_false_iff_ne.mpr c1
      have f3 := eq_true c2
      have f4 : decide (a1 < 0) = true := decide_eq_true c2
      go_wp2_with (go_at_call 29; refine (bellmanlaw02_lives.calls true _ HL.out).mono ?_; rintro e w1 ⟨rfl, hd⟩)
      go_ret
      exact ⟨rfl, hd⟩
    · have f1 := eq_false c1
      have f2 : (a2 == 0) = false := beq_eq_false_iff_ne.mpr c1
      have f3 := eq_false c2
      have f4 : decide (a1 < 0) = false := decide_eq_false c2
      have f5 := eq_true c3
      have f6 : decide ((a0.size : Int) ≤ a1) = true := decide_eq_true c3
      go_wp2_with (go_at_call 29; refine (bellmanlaw02_lives.calls true _ HL.out).mono ?_; rintro e w1 ⟨rfl, hd⟩)
      go_ret
      exact ⟨rfl, hd⟩
  · rename_i hc
    have c1 : ¬ a2 = 0 := fun e => hc (.inl e)
    have c2 : ¬ a1 < 0 := fun e => hc (.inr (.inl e))
    have c3 : ¬ (a0.size : Int) ≤ a1 := fun e => hc (.inr (.inr e))
    clear hc
    obtain ⟨i, rfl⟩ : ∃ i : Nat, a1 = (i : Int) := ⟨a1.toNat, by omega⟩
    have hi : i < a0.size := by omega
    have H := h; clear h
    replace H := Option.bind_eq_some_iff.mp H
    obtain ⟨⟨fr, why⟩, A1, H⟩ := H
    replace H := Option.bind_eq_some_iff.mp H
    obtain ⟨o1, A2, H⟩ := H
    replace H := Option.bind_eq_some_iff.mp H
    obtain ⟨o2, A3, H⟩ := H
    replace A1 := Lib.hid A1; replace A2 := Lib.hid A2; replace A3 := Lib.hid A3
    have HH := Lib.hid H; clear H
    have f1 := eq_false c1
    have f2 : (a2 == 0) = false := beq_eq_false_iff_ne.mpr c1
    have f3 := eq_false c2
    have f4 : decide ((i : Int) < 0) = false := decide_eq_false c2
    have f5 := eq_false c3
    have f6 : decide ((a0.size : Int) ≤ (i : Int)) = false := decide_eq_false c3
    go_enter Try.func10, Try.ntmps10
    go_wp2_with (go_at_call 29; refine (bellmanlaw02_lives.calls true _ HL.out).mono ?_; rintro e w1 ⟨rfl, hd⟩)
    rw [run_bytes_of_string w1 9 41 5 a0 Try.underlying9 Try.underlying41 Try.underlying5]
    simp only [Result.andThen]
    rw [Oper.upon_value]
    generalize hcap : grownCap w1 a0.size 0 5 = cap
    clear hcap
    have hb2 : Below w.heap.size w (w1.drew.alloc (.cells (bytesRow a0 cap) 5 ((bytesRow a0 cap).size, (bytesRow a0 cap).size + 1))) := (below_drew1 hd).alloc hd.size _
    obtain ⟨g, hg⟩ : ∃ g, g = w1.heap.size := ⟨_, rfl⟩
    have hrow : (w1.drew.alloc (.cells (bytesRow a0 cap) 5 ((bytesRow a0 cap).size, (bytesRow a0 cap).size + 1))).heap[g]? = some (.cells (bytesRow a0 cap) 5 ((bytesRow a0 cap).size, (bytesRow a0 cap).size + 1)) := by
      rw [hg]; exact heap_alloc_new _ _
    have hgw : w.heap.size ≤ g := by rw [hg]; exact hd.size
    rw [← hg]
    generalize (w1.drew.alloc (.cells (bytesRow a0 cap) 5 ((bytesRow a0 cap).size, (bytesRow a0 cap).size + 1))) = W1 at hb2 hrow ⊢
    clear hg hd
    have hcell : W1.cell? ⟨g, i, none⟩ = some (.int .u8 (bt a0 (i : Int))) := by
      rw [cell_of_row W1 g i _ _ _ hrow]
      exact bellmanlaw02_SumTurned.row_get a0 cap i hi
    have hfr : W1.frozen? ⟨g, i, none⟩ = false := by
      have := bellmanlaw02_SumTurned.row_size a0 cap i hi
      simp [World.frozen?, hrow]
      omega
    have HR := Lib.hid hrow; clear hrow
    have HB2 := Lib.hid hb2; clear hb2
    go_wp2
    have hrow2 : (W1.setCell ⟨g, i, none⟩ (.int .u8 (Go.bits .xor .u8 (bt a0 (i : Int)) a2))).heap[g]? = some (.cells ((bytesRow a0 cap).setIfInBounds i (.int .u8 (Go.bits .xor .u8 (bt a0 (i : Int)) a2))) 5 ((bytesRow a0 cap).size, (bytesRow a0 cap).size + 1)) := by
      have hh := HR.out
      simp only [World.setCell, Array.getElem?_modify, hh]
      rfl
    have hb3 := HB2.out.setCell (p := ⟨g, i, none⟩) hgw (.int .u8 (Go.bits .xor .u8 (bt a0 (i : Int)) a2))
    clear hcell hfr HR HB2
    generalize (W1.setCell ⟨g, i, none⟩ (.int .u8 (Go.bits .xor .u8 (bt a0 (i : Int)) a2))) = W2 at hrow2 hb3 ⊢
    have hback : (convert 41 9 (.slice (some ⟨g, 0, none⟩) a0.size cap)).run Try.prog W2 = .ok (.string (bellmanlaw02_SumTurned.t a0 (i : Int) a2)) W2 := by
      have hx := run_convert_bytes_back (P := Try.prog) W2 41 9 5 ⟨g, 0, none⟩ cap (bellmanlaw02_SumTurned.l a0 (i : Int) a2) Try.underlying41 Try.underlying5 Try.underlying9 (fun j hj => by
        have e : (⟨g, 0, none⟩ : Addr).add j = ⟨g, j, none⟩ := by unfold Addr.add; split <;> simp_all
        rw [e, cell_of_row W2 g j _ _ _ hrow2]
        exact bellmanlaw02_SumTurned.l_get a0 i a2 cap j hi hj)
      rw [bellmanlaw02_SumTurned.l_len] at hx
      exact hx
    rw [hback]
    simp only [Result.andThen]
    rw [Oper.upon_value]
    clear hback hrow2
    have HB3 := Lib.hid hb3; clear hb3
    have ht : (bellmanlaw02_SumTurned.t a0 (i : Int) a2).size = a0.size := by
      show (bellmanlaw02_SumTurned.l a0 (i : Int) a2).toArray.size = _
      rw [List.size_toArray, bellmanlaw02_SumTurned.l_len]
    generalize bellmanlaw02_SumTurned.t a0 (i : Int) a2 = tt at A3 HH ht ⊢
    by_cases cw : why = 0
    · have w1_ := eq_true cw
      have w2_ : (why != 0) = false := bne_eq_false_iff_eq.mpr cw
      have w3_ : (why == 0) = true := beq_iff_eq.mpr cw
      have H := HH.out; clear HH
      rw [if_pos cw] at H
      split at H
      rotate_left
      · cases H
      rename_i hc
      obtain ⟨z1, z2⟩ := hc
      replace H := Option.bind_eq_some_iff.mp H
      obtain ⟨⟨q1, q2, q3⟩, A4, H⟩ := H
      obtain rfl := Option.some.inj H
      clear H
      obtain ⟨n, hn⟩ : ∃ n, n = fr.size - a0.size := ⟨_, rfl⟩
      replace A4 := Lib.hid A4
      have g1 : wrap64 ((fr.size : Int) - (a0.size : Int)) = (n : Int) := by unfold wrap64; omega
      have g2 : ((n : Int) ≤ (fr.size : Int)) = True := eq_true (by omega)
      have g3 : ((0 : Int) ≤ (n : Int)) = True := eq_true (by omega)
      have g4 : (fr.extract 0 n).size + tt.size ≤ 9223372036854775807 := by
        have : (fr.extract 0 n).size ≤ fr.size := by rw [ByteArray.size_extract]; omega
        omega
      clear HL hsz
      by_cases co : o1 = o2
      · have k1 := eq_true co
        have k2 : (o1 != o2) = false := bne_eq_false_iff_eq.mpr co
        have k3 : (o1 == o2) = true := beq_iff_eq.mpr co
        go_wp2_with (first | (go_at_call 25; refine (sum_Frame.calls a0 fr why _ A1.out).mono ?_; rintro e w3 ⟨rfl, hd3⟩) | (go_at_call 27; refine (sum_Next.calls (fr.extract 0 (fr.size - a0.size) ++ tt) q1 q2 q3 _ A4.out).mono ?_; rintro e w4 ⟨rfl, hd4⟩) | (go_at_call 30; with_reducible refine (sum_Of.calls a0 o1 _ A2.out).mono ?_; rintro e w5 ⟨rfl, hd5⟩) | (go_at_call 30; with_reducible refine (sum_Of.calls tt o2 _ A3.out).mono ?_; rintro e w6 ⟨rfl, hd6⟩))
        have b3 := below_then HB3.out HB3.out.size hd3
        have b4 := below_then b3 b3.size hd4
        have b5 := below_then b4 b4.size hd5
        have b6 := below_then b5 b5.size hd6
        go_ret
        exact ⟨by first | rfl | (simp [*]), b6⟩
      · have k1 := eq_false co
        have k2 : (o1 != o2) = true := bne_iff_ne.mpr co
        have k3 : (o1 == o2) = false := beq_eq_false_iff_ne.mpr co
        go_wp2_with (first | (go_at_call 25; refine (sum_Frame.calls a0 fr why _ A1.out).mono ?_; rintro e w3 ⟨rfl, hd3⟩) | (go_at_call 27; refine (sum_Next.calls (fr.extract 0 (fr.size - a0.size) ++ tt) q1 q2 q3 _ A4.out).mono ?_; rintro e w4 ⟨rfl, hd4⟩) | (go_at_call 30; with_reducible refine (sum_Of.calls a0 o1 _ A2.out).mono ?_; rintro e w5 ⟨rfl, hd5⟩) | (go_at_call 30; with_reducible refine (sum_Of.calls tt o2 _ A3.out).mono ?_; rintro e w6 ⟨rfl, hd6⟩))
        have b3 := below_then HB3.out HB3.out.size hd3
        have b4 := below_then b3 b3.size hd4
        have b5 := below_then b4 b4.size hd5
        have b6 := below_then b5 b5.size hd6
        go_ret
        exact ⟨by first | rfl | (simp [*]), b6⟩
    · have w1_ := eq_false cw
      have w2_ : (why != 0) = true := bne_iff_ne.mpr cw
      have w3_ : (why == 0) = false := beq_eq_false_iff_ne.mpr cw
      have H := HH.out; clear HH
      rw [if_neg cw] at H
      obtain rfl := Option.some.inj H
      clear H HL hsz
      go_wp2_with (first | (go_at_call 25; refine (sum_Frame.calls a0 fr why _ A1.out).mono ?_; rintro e w3 ⟨rfl, hd3⟩) | (go_at_call 30; with_reducible refine (sum_Of.calls a0 o1 _ A2.out).mono ?_; rintro e w5 ⟨rfl, hd5⟩) | (go_at_call 30; with_reducible refine (sum_Of.calls tt o2 _ A3.out).mono ?_; rintro e w6 ⟨rfl, hd6⟩))
      have b3 := below_then HB3.out HB3.out.size hd3
      have b5 := below_then b3 b3.size hd5
      have b6 := below_then b5 b5.size hd6
      go_ret
      exact ⟨by first | rfl | (simp [*]), b6⟩

/-- THE ONE PURE STATEMENT of bellmanlaw02_SumTurned: yours. -/
def bellmanlaw02_SumTurned.Pure : Prop := ∀ (a0 : ByteArray) (a1 : Int) (a2 : Int), a0.size ≤ 140737488351232 → (Lit.int .i64 a1).wf = true → (Lit.int .u8 a2).wf = true → bellmanlaw02_SumTurned.f a0 a1 a2 = some true
theorem bellmanlaw02_SumTurned.walk (P : bellmanlaw02_SumTurned.Pure) (a0 : ByteArray) (a1 : Int) (a2 : Int) (w : World) (w0 : a0.size ≤ 140737488351232) (w1 : (Lit.int .i64 a1).wf = true) (w2 : (Lit.int .u8 a2).wf = true) :
    Calls Try.prog 10 #[.string a0, .int .i64 a1, .int .u8 a2] w fun e w' => e = .returned (.bool true) ∧ Below w.heap.size w w' := by
  have h := P a0 a1 a2 w0 w1 w2
  refine (bellmanlaw02_SumTurned.calls a0 a1 a2 true w h).mono ?_
  rintro e w' ⟨rfl, hd⟩
  exact ⟨rfl, hd⟩

/-! ### wire_Nums: function 36 -/
def wire_Nums.l0 : Nat → List Int → List Int → Int → Int → Option (ByteArray × Int)
  | 0, _, _, _, _ => none
  | k + 1, x4, x13, x14, x15 => if x15 < x14 then (if 0 ≤ x15 then (if x15 < (x13.length : Int) then ((wire_Put.f x4 (rd x13 x15)).bind fun t279 => (wire_Nums.l0 k t279 x13 x14 (wrap64 (x15 + 1)))) else (none)) else (none)) else (some (strOfNums x4, 0))
def wire_Nums.f (k : Nat) (l0 : List Int) : Option (ByteArray × Int) := if (l0.length : Int) > 1024 then (some ((⟨#[]⟩ : ByteArray), 12)) else ((wire_Put.f ([] : List Int) (l0.length : Int)).bind fun t275 => (wire_Nums.l0 k t275 l0 (l0.length : Int) 0))
theorem wire_Nums.mono_l : ∀ k, (∀ y0 y1 y2 y3, LeO (wire_Nums.l0 k y0 y1 y2 y3) (wire_Nums.l0 (k + 1) y0 y1 y2 y3))
  | 0 => fun _ _ _ _ r h => by simp [wire_Nums.l0] at h
  | k + 1 => by
    have ih0 := wire_Nums.mono_l k
    · intro y0 y1 y2 y3
      unfold wire_Nums.l0
      repeat' first
      | (with_reducible exact ih0 _ _ _ _)
      | (with_reducible exact LeO.refl _)
      | (with_reducible exact LeO.none _)
      | (with_reducible refine LeO.ite ?_ ?_)
      | (with_reducible refine LeO.bind ?_ (fun _ => ?_))
      | exact ih0 _ _ _ _
      | exact LeO.none _
      | refine LeO.ite ?_ ?_
      | refine LeO.bind ?_ (fun _ => ?_)
theorem wire_Nums.mono : ∀ a0 k, LeO (wire_Nums.f k a0) (wire_Nums.f (k + 1) a0) := by
  intro a0 k
  have ih0 := wire_Nums.mono_l k
  unfold wire_Nums.f
  repeat' first
      | (with_reducible exact ih0 _ _ _ _)
      | (with_reducible exact LeO.refl _)
      | (with_reducible exact LeO.none _)
      | (with_reducible refine LeO.ite ?_ ?_)
      | (with_reducible refine LeO.bind ?_ (fun _ => ?_))
      | exact ih0 _ _ _ _
      | exact LeO.none _
      | refine LeO.ite ?_ ?_
      | refine LeO.bind ?_ (fun _ => ?_)
set_option maxHeartbeats 8000000 in
set_option maxRecDepth 100000 in
theorem wire_Nums.calls (k : Nat) (A0 : Option Addr) (c0 : Nat) (l0 : List Int) (r1 : ByteArray) (r2 : Int) (w : World) (hr0 : Kd.C (Kd.int .i64) w A0 l0.length l0) (hc0 : l0.length ≤ c0) (h : wire_Nums.f k l0 = some (r1, r2)) :
    Calls Try.prog 36 #[.slice A0 l0.length c0] w fun e w' => e = .returned (.tuple #[.string r1, .int .i64 r2]) ∧ Below w.heap.size w w' := by
  have HR0 := Aside0.mk hr0
  have HC0 := Aside0.mk hc0
  clear hr0 hc0
  have HB := Aside0.mk (Below.refl w.heap.size w)
  have H : (if (l0.length : Int) > 1024 then (some ((⟨#[]⟩ : ByteArray), 12)) else ((wire_Put.f ([] : List Int) (l0.length : Int)).bind fun t275 => (wire_Nums.l0 k t275 l0 (l0.length : Int) 0))) = some (r1, r2) := h
  clear h
  by_cases c2 : (l0.length : Int) > 1024
  · rw [if_pos c2] at H
    have c2b0 : decide (1024 < (l0.length : Int)) = true := decide_eq_true c2
    have c2b1 : decide (1024 < l0.length) = true := decide_eq_true (by omega)
    clear c2
    simp only [Option.some.injEq, Prod.mk.injEq] at H
    obtain ⟨rfl, rfl⟩ := H
    go_enter Try.func36, Try.ntmps36
    go_wp2
    go_ret2
    exact ⟨by first | rfl | (simp [errW_none, errW_some] <;> rfl) | (simp [*, errW_none, errW_some] <;> rfl), by repeat (first | (with_reducible first | exact HB.out | apply below_alloc | apply pw_below_drewN | apply below_drew1) | exact HB.out)⟩
  · rw [if_neg c2] at H
    have c2b0 : decide (1024 < (l0.length : Int)) = false := decide_eq_false c2
    have c2b1 : decide (1024 < l0.length) = false := decide_eq_false (by omega)
    clear c2
    replace H := Option.bind_eq_some_iff.mp H
    obtain ⟨t275, A30, H⟩ := H
    replace H : (wire_Nums.l0 k t275 l0 (l0.length : Int) 0) = some (r1, r2) := H
    have A3 := Aside0.mk A30
    clear A30
    have H' := Aside0.mk H
    clear H
    go_enter Try.func36, Try.ntmps36
    go_wp2_with (first | ((with_reducible refine gate_callee (f := 65) rfl ?_); refine goesL_ (some 12) rfl rfl Try.func65 (by kernel_rfl) rfl #[.slice none 0 0, .int .i64 (l0.length : Int)] rfl (by (try simp only [List.map_toArray, List.map_cons, List.map_nil]); first | done | rfl | (simp only [List.length_drop, List.length_take]; rfl)) ?_; (refine (wire_Put.calls (fun k_ => some k_ = (.slice none 0 0 : Value).ownBlock) (.slice none 0 0) ([] : List Int) (l0.length : Int) t275 w _ ?side1 ?side2 A3.out).mono ?_); (case side1 => repeat (first | (with_reducible first | exact HB.out | apply below_alloc | apply pw_below_drewN | apply below_drew1) | exact HB.out)); (case side2 => exact Kd.R_nil _ _ _ _ _); rintro e w4 ⟨v276, rfl, ho0, hb, hkp⟩; refine ⟨_, rfl, ?_⟩; have n0_ := Aside0.mk (Kd.R_mono (ok' := fun k_ => True) ho0 (fun k_ hk_ => trivial)); have n1_ := Aside0.mk (hb); clear HB; have HO277 := n0_; have HB := n1_; clear n0_ n1_; (try clear hb); (try clear hkp); (try clear ho0)))
    go_loopg [4, 15] k (fun kq v4 v15 w' => ∃ (x4_1 : List Int) (x15_1 : Int), v15 = .int .i64 x15_1 ∧ Aside0 (wire_Nums.l0 kq x4_1 l0 (l0.length : Int) x15_1 = some (r1, r2)) ∧ Aside0 (kq ≤ k) ∧ Aside0 (Kd.R (Kd.int .u8) 5 w' w.heap.size (fun _ => True) v4 x4_1) ∧ Aside0 (Below w.heap.size w w'))
    case atStart => exact ⟨(t275), (0), (by first | rfl | (simp; done) | (simp [*]; done)), H', ⟨Nat.le_refl _⟩, ⟨by (with_reducible repeat (first | apply Kd.R_alloc | apply Kd.R_drewN | apply Kd.R_drew)); exact HO277.out⟩, ⟨by repeat (first | (with_reducible first | exact HB.out | apply below_alloc | apply pw_below_drewN | apply below_drew1) | exact HB.out)⟩⟩
    case round =>
      clear H'
      try clear c2
      try clear c2b0
      try clear c2b1
      try clear p2
      try clear c3
      obtain ⟨x4_1, x15_1, rfl, HA, HK1, HO_4, HB⟩ := hrel
      cases gk with
      | zero => exact absurd HA.out (by simp [wire_Nums.l0])
      | succ k1 =>
        have H := HA.out
        clear HA
        simp only [wire_Nums.l0] at H
        by_cases c5 : x15_1 < (l0.length : Int)
        · rw [if_pos c5] at H
          have c5b0 : decide (x15_1 < (l0.length : Int)) = true := decide_eq_true c5
          clear c5
          by_cases c6 : 0 ≤ x15_1
          · rw [if_pos c6] at H
            have c6b0 : decide (0 ≤ x15_1) = true := decide_eq_true c6
            clear c6
            by_cases c7 : x15_1 < (l0.length : Int)
            · rw [if_pos c7] at H
              have c7b0 : decide (x15_1 < (l0.length : Int)) = true := decide_eq_true c7
              clear c7
              replace H := Option.bind_eq_some_iff.mp H
              obtain ⟨t279, A80, H⟩ := H
              replace H : (wire_Nums.l0 k1 t279 l0 (l0.length : Int) (wrap64 (x15_1 + 1))) = some (r1, r2) := H
              have A8 := Aside0.mk A80
              clear A80
              have H' := Aside0.mk H
              clear H
              have p278 : 0 ≤ (x15_1 : Int) := of_decide_eq_true (by first | (with_reducible assumption) | assumption)
              have q278 : x15_1 < (l0.length : Int) := of_decide_eq_true (by first | (with_reducible assumption) | assumption)
              obtain ⟨ad278, e278, hx278_0⟩ := Kd.at_int HR0.out x15_1 p278 q278
              cases e278
              replace hx278_0 := (HB.out.cell (World.block_lt_of_cell? w _ hx278_0)).trans hx278_0
              replace p278 := eq_true p278
              replace q278 := eq_true q278
              obtain ⟨Ao9, co9, eo9⟩ := Kd.R_slice HO_4.out
              subst eo9
              go_wp2_with (first | ((with_reducible refine gate_callee (f := 65) rfl ?_); refine goesL_ (some 21) rfl rfl Try.func65 (by kernel_rfl) rfl #[.slice Ao9 x4_1.length co9, .int .i64 (rd l0 x15_1)] rfl (by (try simp only [List.map_toArray, List.map_cons, List.map_nil]); first | done | rfl | (simp only [List.length_drop, List.length_take]; rfl)) ?_; (with_reducible refine (wire_Put.calls (fun k_ => some k_ = (.slice Ao9 x4_1.length co9 : Value).ownBlock) (.slice Ao9 x4_1.length co9) x4_1 (rd l0 x15_1) t279 w _ ?side1 ?side2 A8.out).mono ?_); (case side1 => repeat (first | (with_reducible first | exact HB.out | apply below_alloc | apply pw_below_drewN | apply below_drew1) | exact HB.out)); (case side2 => exact Kd.R_tight rfl HO_4.out); rintro e w10 ⟨v280, rfl, ho0, hb, hkp⟩; refine ⟨_, rfl, ?_⟩; have n0_ := Aside0.mk (Kd.R_mono (ok' := fun k_ => True) ho0 (fun k_ hk_ => trivial)); have n1_ := Aside0.mk (hb); clear HB; clear HO_4; have HO281 := n0_; have HB := n1_; clear n0_ n1_; (try clear hb); (try clear hkp); (try clear ho0)))
              go_roundg k1
              case measure => have := HK1.out; omega
              case rel => exact ⟨(t279), (wrap64 (x15_1 + 1)), (by first | rfl | (simp; done) | (simp [*]; done)), H', ⟨by have := HK1.out; omega⟩, ⟨by (with_reducible repeat (first | apply Kd.R_alloc | apply Kd.R_drewN | apply Kd.R_drew)); exact HO281.out⟩, ⟨by repeat (first | (with_reducible first | exact HB.out | apply below_alloc | apply pw_below_drewN | apply below_drew1) | exact HB.out)⟩⟩
            · rw [if_neg c7] at H
              exact absurd H (by simp)
          · rw [if_neg c6] at H
            exact absurd H (by simp)
        · rw [if_neg c5] at H
          have c5b0 : decide (x15_1 < (l0.length : Int)) = false := decide_eq_false c5
          clear c5
          simp only [Option.some.injEq, Prod.mk.injEq] at H
          obtain ⟨rfl, rfl⟩ := H
          have hcv11 := own_string (P := Try.prog) Try.underlying41 Try.underlying5 Try.underlying9 (Kd.own_of_R HO_4.out)
          go_wp2
          go_ret2
          exact ⟨by first | rfl | (simp [errW_none, errW_some] <;> rfl) | (simp [*, errW_none, errW_some] <;> rfl), by repeat (first | (with_reducible first | exact HB.out | apply below_alloc | apply pw_below_drewN | apply below_drew1) | exact HB.out)⟩

/-! ### bellmanref01_Nums: function 37 -/
def bellmanref01_Nums.l0 : Nat → ByteArray → List Int → Int → Int → Option (ByteArray × Int)
  | 0, _, _, _, _ => none
  | k + 1, x4, x13, x14, x15 => if x15 < x14 then (if 0 ≤ x15 then (if x15 < (x13.length : Int) then ((bellmanref01_Num.f k (rd x13 x15)).bind fun t284 => (if x4.size + t284.size ≤ 9223372036854775807 then (bellmanref01_Nums.l0 k (x4 ++ t284) x13 x14 (wrap64 (x15 + 1))) else (none))) else (none)) else (none)) else (some (x4, 0))
def bellmanref01_Nums.f (k : Nat) (l0 : List Int) : Option (ByteArray × Int) := if (l0.length : Int) > 1024 then (some ((⟨#[]⟩ : ByteArray), 12)) else ((bellmanref01_Num.f k (l0.length : Int)).bind fun t282 => (bellmanref01_Nums.l0 k t282 l0 (l0.length : Int) 0))
theorem bellmanref01_Nums.mono_l : ∀ k, (∀ y0 y1 y2 y3, LeO (bellmanref01_Nums.l0 k y0 y1 y2 y3) (bellmanref01_Nums.l0 (k + 1) y0 y1 y2 y3))
  | 0 => fun _ _ _ _ r h => by simp [bellmanref01_Nums.l0] at h
  | k + 1 => by
    have ih0 := bellmanref01_Nums.mono_l k
    · intro y0 y1 y2 y3
      unfold bellmanref01_Nums.l0
      repeat' first
      | (with_reducible exact ih0 _ _ _ _)
      | (with_reducible exact bellmanref01_Num.mono _ _)
      | (with_reducible exact LeO.refl _)
      | (with_reducible exact LeO.none _)
      | (with_reducible refine LeO.ite ?_ ?_)
      | (with_reducible refine LeO.bind ?_ (fun _ => ?_))
      | exact ih0 _ _ _ _
      | exact bellmanref01_Num.mono _ _
      | exact LeO.none _
      | refine LeO.ite ?_ ?_
      | refine LeO.bind ?_ (fun _ => ?_)
theorem bellmanref01_Nums.mono : ∀ a0 k, LeO (bellmanref01_Nums.f k a0) (bellmanref01_Nums.f (k + 1) a0) := by
  intro a0 k
  have ih0 := bellmanref01_Nums.mono_l k
  unfold bellmanref01_Nums.f
  repeat' first
      | (with_reducible exact ih0 _ _ _ _)
      | (with_reducible exact bellmanref01_Num.mono _ _)
      | (with_reducible exact LeO.refl _)
      | (with_reducible exact LeO.none _)
      | (with_reducible refine LeO.ite ?_ ?_)
      | (with_reducible refine LeO.bind ?_ (fun _ => ?_))
      | exact ih0 _ _ _ _
      | exact bellmanref01_Num.mono _ _
      | exact LeO.none _
      | refine LeO.ite ?_ ?_
      | refine LeO.bind ?_ (fun _ => ?_)
set_option maxHeartbeats 8000000 in
set_option maxRecDepth 100000 in
theorem bellmanref01_Nums.calls (k : Nat) (A0 : Option Addr) (c0 : Nat) (l0 : List Int) (r1 : ByteArray) (r2 : Int) (w : World) (hr0 : Kd.C (Kd.int .i64) w A0 l0.length l0) (hc0 : l0.length ≤ c0) (h : bellmanref01_Nums.f k l0 = some (r1, r2)) :
    Calls Try.prog 37 #[.slice A0 l0.length c0] w fun e w' => e = .returned (.tuple #[.string r1, .int .i64 r2]) ∧ Below w.heap.size w w' := by
  have HR0 := Aside0.mk hr0
  have HC0 := Aside0.mk hc0
  clear hr0 hc0
  have HB := Aside0.mk (Below.refl w.heap.size w)
  have H : (if (l0.length : Int) > 1024 then (some ((⟨#[]⟩ : ByteArray), 12)) else ((bellmanref01_Num.f k (l0.length : Int)).bind fun t282 => (bellmanref01_Nums.l0 k t282 l0 (l0.length : Int) 0))) = some (r1, r2) := h
  clear h
  by_cases c2 : (l0.length : Int) > 1024
  · rw [if_pos c2] at H
    have c2b0 : decide (1024 < (l0.length : Int)) = true := decide_eq_true c2
    have c2b1 : decide (1024 < l0.length) = true := decide_eq_true (by omega)
    clear c2
    simp only [Option.some.injEq, Prod.mk.injEq] at H
    obtain ⟨rfl, rfl⟩ := H
    go_enter Try.func37, Try.ntmps37
    go_wp2
    go_ret2
    exact ⟨by first | rfl | (simp [errW_none, errW_some] <;> rfl) | (simp [*, errW_none, errW_some] <;> rfl), by repeat (first | (with_reducible first | exact HB.out | apply below_alloc | apply pw_below_drewN | apply below_drew1) | exact HB.out)⟩
  · rw [if_neg c2] at H
    have c2b0 : decide (1024 < (l0.length : Int)) = false := decide_eq_false c2
    have c2b1 : decide (1024 < l0.length) = false := decide_eq_false (by omega)
    clear c2
    replace H := Option.bind_eq_some_iff.mp H
    obtain ⟨t282, A30, H⟩ := H
    replace H : (bellmanref01_Nums.l0 k t282 l0 (l0.length : Int) 0) = some (r1, r2) := H
    have A3 := Aside0.mk A30
    clear A30
    have H' := Aside0.mk H
    clear H
    go_enter Try.func37, Try.ntmps37
    go_wp2_with (first | ((with_reducible refine gate_callee (f := 24) rfl ?_); refine goesL_ (some 12) rfl rfl Try.func24 (by kernel_rfl) rfl #[.int .i64 (l0.length : Int)] rfl (by (try simp only [List.map_toArray, List.map_cons, List.map_nil]); first | done | rfl | (simp only [List.length_drop, List.length_take]; rfl)) ?_; (with_reducible refine (bellmanref01_Num.calls k (l0.length : Int) t282 _ A3.out).mono ?_); rintro e w4 ⟨rfl, hb⟩; refine ⟨_, rfl, ?_⟩; have n0_ := Aside0.mk (below_step (by repeat (first | (with_reducible first | exact HB.out | apply below_alloc | apply pw_below_drewN | apply below_drew1) | exact HB.out)) hb); clear HB; have HB := n0_; clear n0_; (try clear hb); (try clear hb2); (try clear hk); (try clear hi)))
    go_loopg [4, 15] k (fun kq v4 v15 w' => ∃ (x4_1 : ByteArray) (x15_1 : Int), v4 = .string x4_1 ∧ v15 = .int .i64 x15_1 ∧ Aside0 (bellmanref01_Nums.l0 kq x4_1 l0 (l0.length : Int) x15_1 = some (r1, r2)) ∧ Aside0 (kq ≤ k) ∧ Aside0 (Below w.heap.size w w'))
    case atStart => exact ⟨(t282), (0), (by first | rfl | (simp; done) | (simp [*]; done)), (by first | rfl | (simp; done) | (simp [*]; done)), H', ⟨Nat.le_refl _⟩, ⟨by repeat (first | (with_reducible first | exact HB.out | apply below_alloc | apply pw_below_drewN | apply below_drew1) | exact HB.out)⟩⟩
    case round =>
      clear H'
      try clear c2
      try clear c2b0
      try clear c2b1
      try clear p2
      try clear c3
      obtain ⟨x4_1, x15_1, rfl, rfl, HA, HK1, HB⟩ := hrel
      cases gk with
      | zero => exact absurd HA.out (by simp [bellmanref01_Nums.l0])
      | succ k1 =>
        have H := HA.out
        clear HA
        simp only [bellmanref01_Nums.l0] at H
        by_cases c5 : x15_1 < (l0.length : Int)
        · rw [if_pos c5] at H
          have c5b0 : decide (x15_1 < (l0.length : Int)) = true := decide_eq_true c5
          clear c5
          by_cases c6 : 0 ≤ x15_1
          · rw [if_pos c6] at H
            have c6b0 : decide (0 ≤ x15_1) = true := decide_eq_true c6
            clear c6
            by_cases c7 : x15_1 < (l0.length : Int)
            · rw [if_pos c7] at H
              have c7b0 : decide (x15_1 < (l0.length : Int)) = true := decide_eq_true c7
              clear c7
              replace H := Option.bind_eq_some_iff.mp H
              obtain ⟨t284, A80, H⟩ := H
              replace H : (if x4_1.size + t284.size ≤ 9223372036854775807 then (bellmanref01_Nums.l0 k1 (x4_1 ++ t284) l0 (l0.length : Int) (wrap64 (x15_1 + 1))) else (none)) = some (r1, r2) := H
              have A8 := Aside0.mk A80
              clear A80
              by_cases c9 : x4_1.size + t284.size ≤ 9223372036854775807
              · rw [if_pos c9] at H
                have c9b0 := eq_true c9
                have c9b1 : decide (x4_1.size + t284.size ≤ 9223372036854775807) = true := decide_eq_true c9
                try have c9b2 : (9223372036854775807 < x4_1.size + t284.size) = False := eq_false (Nat.not_lt.2 c9)
                have H' := Aside0.mk H
                clear H
                have p283 : 0 ≤ (x15_1 : Int) := of_decide_eq_true (by first | (with_reducible assumption) | assumption)
                have q283 : x15_1 < (l0.length : Int) := of_decide_eq_true (by first | (with_reducible assumption) | assumption)
                obtain ⟨ad283, e283, hx283_0⟩ := Kd.at_int HR0.out x15_1 p283 q283
                cases e283
                replace hx283_0 := (HB.out.cell (World.block_lt_of_cell? w _ hx283_0)).trans hx283_0
                replace p283 := eq_true p283
                replace q283 := eq_true q283
                go_wp2_with (first | ((with_reducible refine gate_callee (f := 24) rfl ?_); refine goesL_ (some 21) rfl rfl Try.func24 (by kernel_rfl) rfl #[.int .i64 (rd l0 x15_1)] rfl (by (try simp only [List.map_toArray, List.map_cons, List.map_nil]); first | done | rfl | (simp only [List.length_drop, List.length_take]; rfl)) ?_; (with_reducible refine (bellmanref01_Num.calls k1 (rd l0 x15_1) t284 _ A8.out).mono ?_); rintro e w10 ⟨rfl, hb⟩; refine ⟨_, rfl, ?_⟩; have n0_ := Aside0.mk (below_step (by repeat (first | (with_reducible first | exact HB.out | apply below_alloc | apply pw_below_drewN | apply below_drew1) | exact HB.out)) hb); clear HB; have HB := n0_; clear n0_; (try clear hb); (try clear hb2); (try clear hk); (try clear hi)))
                go_roundg k1
                case measure => have := HK1.out; omega
                case rel => exact ⟨(x4_1 ++ t284), (wrap64 (x15_1 + 1)), (by first | rfl | (simp; done) | (simp [*]; done)), (by first | rfl | (simp; done) | (simp [*]; done)), H', ⟨by have := HK1.out; omega⟩, ⟨by repeat (first | (with_reducible first | exact HB.out | apply below_alloc | apply pw_below_drewN | apply below_drew1) | exact HB.out)⟩⟩
              · rw [if_neg c9] at H
                exact absurd H (by simp)
            · rw [if_neg c7] at H
              exact absurd H (by simp)
          · rw [if_neg c6] at H
            exact absurd H (by simp)
        · rw [if_neg c5] at H
          have c5b0 : decide (x15_1 < (l0.length : Int)) = false := decide_eq_false c5
          clear c5
          simp only [Option.some.injEq, Prod.mk.injEq] at H
          obtain ⟨rfl, rfl⟩ := H
          go_wp2
          go_ret2
          exact ⟨by first | rfl | (simp [errW_none, errW_some] <;> rfl) | (simp [*, errW_none, errW_some] <;> rfl), by repeat (first | (with_reducible first | exact HB.out | apply below_alloc | apply pw_below_drewN | apply below_drew1) | exact HB.out)⟩

-- NOT PRINTED: function 71 (wire_List_int64)

-- NOT PRINTED: function 38 (wire_GetNums)

/-! ### bellmanref01_GetNums: function 39 -/
def bellmanref01_GetNums.l0 : Nat → Int → ByteArray → Int → List Int → Int → Option (List Int × ByteArray × Int)
  | 0, _, _, _, _, _ => none
  | k + 1, x5, x6, x7, x8, x9 => if x9 < x5 then (if x7 = 0 then ((bellmanref01_GetNum.f k x6).bind fun bt289 => (if x8.length < 17592186044416 then (bellmanref01_GetNums.l0 k x5 bt289.2.1 bt289.2.2 (x8 ++ [bt289.1]) (wrap64 (x9 + 1))) else (none))) else (some (([] : List Int), (⟨#[]⟩ : ByteArray), x7))) else (if x7 = 0 then (some (x8, x6, 0)) else (some (([] : List Int), (⟨#[]⟩ : ByteArray), x7)))
def bellmanref01_GetNums.f (k : Nat) (a0 : ByteArray) : Option (List Int × ByteArray × Int) := (bellmanref01_many.f k a0 1024).bind fun bt286 => (bellmanref01_GetNums.l0 k bt286.1 bt286.2.1 bt286.2.2 ([] : List Int) 0)
theorem bellmanref01_GetNums.mono_l : ∀ k, (∀ y0 y1 y2 y3 y4, LeO (bellmanref01_GetNums.l0 k y0 y1 y2 y3 y4) (bellmanref01_GetNums.l0 (k + 1) y0 y1 y2 y3 y4))
  | 0 => fun _ _ _ _ _ r h => by simp [bellmanref01_GetNums.l0] at h
  | k + 1 => by
    have ih0 := bellmanref01_GetNums.mono_l k
    · intro y0 y1 y2 y3 y4
      unfold bellmanref01_GetNums.l0
      repeat' first
      | (with_reducible exact ih0 _ _ _ _ _)
      | (with_reducible exact bellmanref01_GetNum.mono _ _)
      | (with_reducible exact bellmanref01_many.mono _ _ _)
      | (with_reducible exact LeO.refl _)
      | (with_reducible exact LeO.none _)
      | (with_reducible refine LeO.ite ?_ ?_)
      | (with_reducible refine LeO.bind ?_ (fun _ => ?_))
      | exact ih0 _ _ _ _ _
      | exact bellmanref01_GetNum.mono _ _
      | exact bellmanref01_many.mono _ _ _
      | exact LeO.none _
      | refine LeO.ite ?_ ?_
      | refine LeO.bind ?_ (fun _ => ?_)
theorem bellmanref01_GetNums.mono : ∀ a0 k, LeO (bellmanref01_GetNums.f k a0) (bellmanref01_GetNums.f (k + 1) a0) := by
  intro a0 k
  have ih0 := bellmanref01_GetNums.mono_l k
  unfold bellmanref01_GetNums.f
  repeat' first
      | (with_reducible exact ih0 _ _ _ _ _)
      | (with_reducible exact bellmanref01_GetNum.mono _ _)
      | (with_reducible exact bellmanref01_many.mono _ _ _)
      | (with_reducible exact LeO.refl _)
      | (with_reducible exact LeO.none _)
      | (with_reducible refine LeO.ite ?_ ?_)
      | (with_reducible refine LeO.bind ?_ (fun _ => ?_))
      | exact ih0 _ _ _ _ _
      | exact bellmanref01_GetNum.mono _ _
      | exact bellmanref01_many.mono _ _ _
      | exact LeO.none _
      | refine LeO.ite ?_ ?_
      | refine LeO.bind ?_ (fun _ => ?_)
set_option maxHeartbeats 8000000 in
set_option maxRecDepth 100000 in
theorem bellmanref01_GetNums.calls (k : Nat) (a0 : ByteArray) (r1 : List Int) (r2 : ByteArray) (r3 : Int) (w : World) (h : bellmanref01_GetNums.f k a0 = some (r1, r2, r3)) :
    Calls Try.prog 39 #[.string a0] w fun e w' => ∃ v0_ : Value, e = .returned (.tuple #[v0_, .string r2, .int .i64 r3]) ∧ Kd.R (Kd.int .i64) 2 w' w.heap.size (fun _ => True) v0_ r1 ∧ Below w.heap.size w w' := by
  have HB := Aside0.mk (Below.refl w.heap.size w)
  have H : ((bellmanref01_many.f k a0 1024).bind fun bt286 => (bellmanref01_GetNums.l0 k bt286.1 bt286.2.1 bt286.2.2 ([] : List Int) 0)) = some (r1, r2, r3) := h
  clear h
  replace H := Option.bind_eq_some_iff.mp H
  obtain ⟨⟨t286, t287, t288⟩, A20, H⟩ := H
  replace H : (bellmanref01_GetNums.l0 k t286 t287 t288 ([] : List Int) 0) = some (r1, r2, r3) := H
  have A2 := Aside0.mk A20
  clear A20
  have H' := Aside0.mk H
  clear H
  go_enter Try.func39, Try.ntmps39
  go_wp2_with (first | ((with_reducible refine gate_callee (f := 64) rfl ?_); refine goesL_ (some 15) rfl rfl Try.func64 (by kernel_rfl) rfl #[.string a0, .int .i64 1024] rfl (by (try simp only [List.map_toArray, List.map_cons, List.map_nil]); first | done | rfl | (simp only [List.length_drop, List.length_take]; rfl)) ?_; (with_reducible refine (bellmanref01_many.calls k a0 1024 t286 t287 t288 _ A2.out).mono ?_); rintro e w3 ⟨rfl, hb⟩; refine ⟨_, rfl, ?_⟩; have n0_ := Aside0.mk (below_step (by repeat (first | (with_reducible first | exact HB.out | apply below_alloc | apply pw_below_drewN | apply below_drew1) | exact HB.out)) hb); clear HB; have HB := n0_; clear n0_; (try clear hb); (try clear hb2); (try clear hk); (try clear hi)))
  go_loopg [6, 7, 8, 9] k (fun kq v6 v7 v8 v9 w' => ∃ (x6_1 : ByteArray) (x7_1 : Int) (x8_1 : List Int) (x9_1 : Int), v6 = .string x6_1 ∧ v7 = .int .i64 x7_1 ∧ v9 = .int .i64 x9_1 ∧ Aside0 (bellmanref01_GetNums.l0 kq t286 x6_1 x7_1 x8_1 x9_1 = some (r1, r2, r3)) ∧ Aside0 (kq ≤ k) ∧ Aside0 (Kd.R (Kd.int .i64) 2 w' w.heap.size (fun _ => True) v8 x8_1) ∧ Aside0 (Below w.heap.size w w'))
  case atStart => exact ⟨(t287), (t288), (([] : List Int)), (0), (by first | rfl | (simp; done) | (simp [*]; done)), (by first | rfl | (simp; done) | (simp [*]; done)), (by first | rfl | (simp; done) | (simp [*]; done)), H', ⟨Nat.le_refl _⟩, ⟨by first | exact Kd.R_nil _ _ _ _ _ | exact Kd.N_nil _ _ _ _ _ | exact Kd.V_nil _ _ _ _ _ | exact Kd.Q_nil _ _ _ _ _ | exact Kd.S_nil _ _ _ _ _⟩, ⟨by repeat (first | (with_reducible first | exact HB.out | apply below_alloc | apply pw_below_drewN | apply below_drew1) | exact HB.out)⟩⟩
  case round =>
    clear H'
    try clear p2
    try clear c3
    obtain ⟨x6_1, x7_1, x8_1, x9_1, rfl, rfl, rfl, HA, HK1, HO_8, HB⟩ := hrel
    cases gk with
    | zero => exact absurd HA.out (by simp [bellmanref01_GetNums.l0])
    | succ k1 =>
      have H := HA.out
      clear HA
      simp only [bellmanref01_GetNums.l0] at H
      by_cases c4 : x9_1 < t286
      · rw [if_pos c4] at H
        have c4b0 : decide (x9_1 < t286) = true := decide_eq_true c4
        clear c4
        by_cases c5 : x7_1 = 0
        · rw [if_pos c5] at H
          have c5b0 : (x7_1 == 0) = true := beq_iff_eq.mpr c5
          have c5b1 : (x7_1 != 0) = false := bne_eq_false_iff_eq.mpr c5
          clear c5
          replace H := Option.bind_eq_some_iff.mp H
          obtain ⟨⟨t289, t290, t291⟩, A60, H⟩ := H
          replace H : (if x8_1.length < 17592186044416 then (bellmanref01_GetNums.l0 k1 t286 t290 t291 (x8_1 ++ [t289]) (wrap64 (x9_1 + 1))) else (none)) = some (r1, r2, r3) := H
          have A6 := Aside0.mk A60
          clear A60
          by_cases c7 : x8_1.length < 17592186044416
          · rw [if_pos c7] at H
            have LMc7 := Aside0.mk c7
            clear c7
            obtain ⟨y292, hy292⟩ : ∃ y_ : List Int, y_ = (x8_1 ++ [t289]) := ⟨_, rfl⟩
            replace H : (bellmanref01_GetNums.l0 k1 t286 t290 t291 y292 (wrap64 (x9_1 + 1))) = some (r1, r2, r3) := by first | (rw [hy292]; with_reducible exact H) | (have H2_ := (Option.bind_some _ _).symm.trans H; rw [hy292]; with_reducible exact H2_) | (have H2_ := (Option.bind_some _ _).symm.trans H; with_reducible exact H2_) | with_reducible exact H | (rw [hy292]; exact H) | exact H
            have Ny292 := Aside0.mk hy292
            clear hy292
            have H' := Aside0.mk H
            clear H
            go_wp2_with (first | ((with_reducible refine gate_callee (f := 17) rfl ?_); refine goesL_ (some 30) rfl rfl Try.func17 (by kernel_rfl) rfl #[.string x6_1] rfl (by (try simp only [List.map_toArray, List.map_cons, List.map_nil]); first | done | rfl | (simp only [List.length_drop, List.length_take]; rfl)) ?_; (with_reducible refine (bellmanref01_GetNum.calls k1 x6_1 t289 t290 t291 _ A6.out).mono ?_); rintro e w8 ⟨rfl, hb⟩; refine ⟨_, rfl, ?_⟩; have n0_ := Aside0.mk (Kd.R_below (by (with_reducible repeat (first | apply Kd.R_alloc | apply Kd.R_drewN | apply Kd.R_drew)); exact HO_8.out) hb); have n1_ := Aside0.mk (below_step (by repeat (first | (with_reducible first | exact HB.out | apply below_alloc | apply pw_below_drewN | apply below_drew1) | exact HB.out)) hb); clear HO_8; clear HB; have HO_8 := n0_; have HB := n1_; clear n0_ n1_; (try clear hb); (try clear hb2); (try clear hk); (try clear hi)) | ((with_reducible refine gate_builtin (b := .append) (xs := #[.tmp 34, .tmp 36]) rfl ?_); at_builtin; refine Kd.R_append (Kd.int .i64) (w0 := w) w.heap.size rfl (.tmp 34) (.tmp 36) 43 2 (.int .i64 0) 8 rfl Try.underlying43 info2 rfl (by decide) (by omega) u8 x8_1 t289 [.int .i64 t289] (fun _ => True) (fun _ => False) rfl rfl ?aP (fun _ hk => hk.elim) ?aF ?aO ?aB ?aS ?aL ?_; (case aP => exact rfl); (case aB => exact (by repeat (first | (with_reducible first | exact HB.out | apply below_alloc | apply pw_below_drewN | apply below_drew1) | exact HB.out))); (case aF => exact (fun _ _ => trivial)); (case aO => exact (by (with_reducible repeat (first | apply Kd.R_alloc | apply Kd.R_drewN | apply Kd.R_drew)); exact HO_8.out)); (case aS => exact (below_size (by repeat (first | (with_reducible first | exact HB.out | apply below_alloc | apply pw_below_drewN | apply below_drew1) | exact HB.out)))); (case aL => have := LMc7.out; omega); intro v293 w9 ho hb hg hat; rw [← Ny292.out] at ho; have n0_ := Aside0.mk (hb); have n1_ := Aside0.mk (ho); clear HB; clear HO_8; have HB := n0_; have HO294 := n1_; clear n0_ n1_; clear ho hb hg hat))
            go_roundg k1
            case measure => have := HK1.out; omega
            case rel => exact ⟨(t290), (t291), (y292), (wrap64 (x9_1 + 1)), (by first | rfl | (simp; done) | (simp [*]; done)), (by first | rfl | (simp; done) | (simp [*]; done)), (by first | rfl | (simp; done) | (simp [*]; done)), H', ⟨by have := HK1.out; omega⟩, ⟨by (with_reducible repeat (first | apply Kd.R_alloc | apply Kd.R_drewN | apply Kd.R_drew)); exact HO294.out⟩, ⟨by repeat (first | (with_reducible first | exact HB.out | apply below_alloc | apply pw_below_drewN | apply below_drew1) | exact HB.out)⟩⟩
          · rw [if_neg c7] at H
            exact absurd H (by simp)
        · rw [if_neg c5] at H
          have c5b0 : (x7_1 == 0) = false := beq_eq_false_iff_ne.mpr c5
          have c5b1 : (x7_1 != 0) = true := bne_iff_ne.mpr c5
          simp only [Option.some.injEq, Prod.mk.injEq] at H
          obtain ⟨rfl, rfl, rfl⟩ := H
          go_wp2
          go_ret3
          exact ⟨_, by first | rfl | (simp [errW_none, errW_some] <;> rfl) | (simp [*, errW_none, errW_some] <;> rfl), by first | exact Kd.R_nil _ _ _ _ _ | exact Kd.N_nil _ _ _ _ _ | exact Kd.V_nil _ _ _ _ _ | exact Kd.Q_nil _ _ _ _ _ | exact Kd.S_nil _ _ _ _ _, by repeat (first | (with_reducible first | exact HB.out | apply below_alloc | apply pw_below_drewN | apply below_drew1) | exact HB.out)⟩
      · rw [if_neg c4] at H
        have c4b0 : decide (x9_1 < t286) = false := decide_eq_false c4
        clear c4
        by_cases c10 : x7_1 = 0
        · rw [if_pos c10] at H
          have c10b0 : (x7_1 == 0) = true := beq_iff_eq.mpr c10
          have c10b1 : (x7_1 != 0) = false := bne_eq_false_iff_eq.mpr c10
          clear c10
          simp only [Option.some.injEq, Prod.mk.injEq] at H
          obtain ⟨rfl, rfl, rfl⟩ := H
          go_wp2
          go_ret3
          exact ⟨_, by first | rfl | (simp [errW_none, errW_some] <;> rfl) | (simp [*, errW_none, errW_some] <;> rfl), by (with_reducible repeat (first | apply Kd.R_alloc | apply Kd.R_drewN | apply Kd.R_drew)); exact HO_8.out, by repeat (first | (with_reducible first | exact HB.out | apply below_alloc | apply pw_below_drewN | apply below_drew1) | exact HB.out)⟩
        · rw [if_neg c10] at H
          have c10b0 : (x7_1 == 0) = false := beq_eq_false_iff_ne.mpr c10
          have c10b1 : (x7_1 != 0) = true := bne_iff_ne.mpr c10
          simp only [Option.some.injEq, Prod.mk.injEq] at H
          obtain ⟨rfl, rfl, rfl⟩ := H
          go_wp2
          go_ret3
          exact ⟨_, by first | rfl | (simp [errW_none, errW_some] <;> rfl) | (simp [*, errW_none, errW_some] <;> rfl), by first | exact Kd.R_nil _ _ _ _ _ | exact Kd.N_nil _ _ _ _ _ | exact Kd.V_nil _ _ _ _ _ | exact Kd.Q_nil _ _ _ _ _ | exact Kd.S_nil _ _ _ _ _, by repeat (first | (with_reducible first | exact HB.out | apply below_alloc | apply pw_below_drewN | apply below_drew1) | exact HB.out)⟩

end Go.Proofs.Ytgcilfpoblijnaa.X
