-- by px.py, a program of this session, over the kit's printer: functions given by hand stand beside printed ones. Lean checks all of it.
import Derived.Test.YtddjklpkhdhfkaaXT0
import Derived.Test.YtddjklpkhdhfkaaXT1
import Derived.Test.YtddjklpkhdhfkaaXT2
namespace Go.Proofs.Ytddjklpkhdhfkaa.XT
open Go.RowKit Go.Proofs.YtddjklpkhdhfkaaW.PrintWords Go.Proofs.YtddjklpkhdhfkaaW.PrintLast Go.Proofs.YtddjklpkhdhfkaaW.PrintMore
attribute [local go_sem] max2_int min2_int max_two min_two max_three min_three max_four min_four   -- for this text's walks alone
set_option linter.unusedVariables false
set_option linter.unusedSimpArgs false

/-! ### sum_Next: function 8 -/
def sum_Next.f (a0 : ByteArray) : Option (ByteArray × ByteArray × Int) := (wire_GetNum.f a0).bind fun bt141 => (if bt141.2.2 = 0 then (if bt141.1 < 0 then (some ((⟨#[]⟩ : ByteArray), (⟨#[]⟩ : ByteArray), 7)) else (if bt141.1 > 32768 then (some ((⟨#[]⟩ : ByteArray), (⟨#[]⟩ : ByteArray), 12)) else (if (wrap64 ((bt141.2.1.size : Int) - 4)) < bt141.1 then (some ((⟨#[]⟩ : ByteArray), (⟨#[]⟩ : ByteArray), 5)) else (if 4 ≤ (wrap64 (4 + bt141.1)) then (if (wrap64 (4 + bt141.1)) ≤ (bt141.2.1.size : Int) then (if 0 ≤ 4 then (if 4 ≤ (bt141.2.1.size : Int) then ((sum_Of.f (bt141.2.1.extract 4 ((wrap64 (4 + bt141.1)) : Int).toNat)).bind fun t144 => ((sum_bytes.f t144).bind fun t145 => (if (bt141.2.1.extract 0 4).toList = t145.toList then (if 0 ≤ (wrap64 (4 + bt141.1)) then (some (bt141.2.1.extract 4 ((wrap64 (4 + bt141.1)) : Int).toNat, bt141.2.1.extract ((wrap64 (4 + bt141.1)) : Int).toNat bt141.2.1.size, 0)) else (none)) else (some ((⟨#[]⟩ : ByteArray), (⟨#[]⟩ : ByteArray), 6))))) else (none)) else (none)) else (none)) else (none))))) else (some ((⟨#[]⟩ : ByteArray), (⟨#[]⟩ : ByteArray), bt141.2.2)))
def sum_Next.T13 : Bool × List (List Nat × List Nat) := (true, [([], []), ([], []), ([], []), ([2], [2]), ([1, 3], [1, 3]), ([0, 0], [0]), ([4, 5, 0, 1, 2, 3, 4, 5], [4]), ([6, 0, 1, 2, 3, 4, 5, 6], [])])
def sum_Next.B13 : List Nat := [0, 0, 0, 4, 14, 1, 63, 127]
theorem sum_Next.tab13 : rtab .any (opsOf Try.f8 13) = sum_Next.T13 := by kernel_rfl
theorem sum_Next.bits13 : waitsOk sum_Next.T13.2 sum_Next.B13 = true := by kernel_rfl
set_option maxHeartbeats 8000000 in
set_option maxRecDepth 100000 in
theorem sum_Next.calls (a0 : ByteArray) (r1 : ByteArray) (r2 : ByteArray) (r3 : Int) (w : World) (h : sum_Next.f a0 = some (r1, r2, r3)) :
    Calls Try.prog 8 #[.string a0] w fun e w' => e = .returned (.tuple #[.string r1, .string r2, .int .i64 r3]) ∧ Below w.heap.size w w' := by
  have HB := Aside0.mk (Below.refl w.heap.size w)
  have H : ((wire_GetNum.f a0).bind fun bt141 => (if bt141.2.2 = 0 then (if bt141.1 < 0 then (some ((⟨#[]⟩ : ByteArray), (⟨#[]⟩ : ByteArray), 7)) else (if bt141.1 > 32768 then (some ((⟨#[]⟩ : ByteArray), (⟨#[]⟩ : ByteArray), 12)) else (if (wrap64 ((bt141.2.1.size : Int) - 4)) < bt141.1 then (some ((⟨#[]⟩ : ByteArray), (⟨#[]⟩ : ByteArray), 5)) else (if 4 ≤ (wrap64 (4 + bt141.1)) then (if (wrap64 (4 + bt141.1)) ≤ (bt141.2.1.size : Int) then (if 0 ≤ 4 then (if 4 ≤ (bt141.2.1.size : Int) then ((sum_Of.f (bt141.2.1.extract 4 ((wrap64 (4 + bt141.1)) : Int).toNat)).bind fun t144 => ((sum_bytes.f t144).bind fun t145 => (if (bt141.2.1.extract 0 4).toList = t145.toList then (if 0 ≤ (wrap64 (4 + bt141.1)) then (some (bt141.2.1.extract 4 ((wrap64 (4 + bt141.1)) : Int).toNat, bt141.2.1.extract ((wrap64 (4 + bt141.1)) : Int).toNat bt141.2.1.size, 0)) else (none)) else (some ((⟨#[]⟩ : ByteArray), (⟨#[]⟩ : ByteArray), 6))))) else (none)) else (none)) else (none)) else (none))))) else (some ((⟨#[]⟩ : ByteArray), (⟨#[]⟩ : ByteArray), bt141.2.2)))) = some (r1, r2, r3) := h
  clear h
  replace H := Option.bind_eq_some_iff.mp H
  obtain ⟨⟨t141, t142, t143⟩, A20, H⟩ := H
  replace H : (if t143 = 0 then (if t141 < 0 then (some ((⟨#[]⟩ : ByteArray), (⟨#[]⟩ : ByteArray), 7)) else (if t141 > 32768 then (some ((⟨#[]⟩ : ByteArray), (⟨#[]⟩ : ByteArray), 12)) else (if (wrap64 ((t142.size : Int) - 4)) < t141 then (some ((⟨#[]⟩ : ByteArray), (⟨#[]⟩ : ByteArray), 5)) else (if 4 ≤ (wrap64 (4 + t141)) then (if (wrap64 (4 + t141)) ≤ (t142.size : Int) then (if 0 ≤ 4 then (if 4 ≤ (t142.size : Int) then ((sum_Of.f (t142.extract 4 ((wrap64 (4 + t141)) : Int).toNat)).bind fun t144 => ((sum_bytes.f t144).bind fun t145 => (if (t142.extract 0 4).toList = t145.toList then (if 0 ≤ (wrap64 (4 + t141)) then (some (t142.extract 4 ((wrap64 (4 + t141)) : Int).toNat, t142.extract ((wrap64 (4 + t141)) : Int).toNat t142.size, 0)) else (none)) else (some ((⟨#[]⟩ : ByteArray), (⟨#[]⟩ : ByteArray), 6))))) else (none)) else (none)) else (none)) else (none))))) else (some ((⟨#[]⟩ : ByteArray), (⟨#[]⟩ : ByteArray), t143))) = some (r1, r2, r3) := H
  have A2 := Aside0.mk A20
  clear A20
  by_cases c3 : t143 = 0
  · rw [if_pos c3] at H
    have c3b0 : (t143 == 0) = true := beq_iff_eq.mpr c3
    have c3b1 : (t143 != 0) = false := bne_eq_false_iff_eq.mpr c3
    clear c3
    by_cases c4 : t141 < 0
    · rw [if_pos c4] at H
      have c4b0 : decide (t141 < 0) = true := decide_eq_true c4
      clear c4
      simp only [Option.some.injEq, Prod.mk.injEq] at H
      obtain ⟨rfl, rfl, rfl⟩ := H
      go_enter Try.func8, Try.ntmps8
      go_wp2_with (first | ((with_reducible refine gate_callee (f := 15) rfl ?_); refine goesL_ (some 11) rfl rfl Try.func15 (by kernel_rfl) rfl #[.string a0] rfl (by (try simp only [List.map_toArray, List.map_cons, List.map_nil]); first | done | rfl | (simp only [List.length_drop, List.length_take]; rfl)) ?_; (with_reducible refine (wire_GetNum.calls a0 t141 t142 t143 _ A2.out).mono ?_); rintro e w5 ⟨rfl, hb⟩; refine ⟨_, rfl, ?_⟩; have n0_ := Aside0.mk (below_step (by repeat (first | (with_reducible first | exact HB.out | apply below_alloc | apply pw_below_drewN | apply below_drew1) | exact HB.out)) hb); clear HB; have HB := n0_; clear n0_; (try clear hb); (try clear hb2); (try clear hk); (try clear hi)))
      go_ret3
      exact ⟨by first | rfl | (simp [errW_none, errW_some] <;> rfl) | (simp [*, errW_none, errW_some] <;> rfl), by repeat (first | (with_reducible first | exact HB.out | apply below_alloc | apply pw_below_drewN | apply below_drew1) | exact HB.out)⟩
    · rw [if_neg c4] at H
      have c4b0 : decide (t141 < 0) = false := decide_eq_false c4
      clear c4
      by_cases c6 : t141 > 32768
      · rw [if_pos c6] at H
        have c6b0 : decide (32768 < t141) = true := decide_eq_true c6
        clear c6
        simp only [Option.some.injEq, Prod.mk.injEq] at H
        obtain ⟨rfl, rfl, rfl⟩ := H
        go_enter Try.func8, Try.ntmps8
        go_wp2_with (first | ((with_reducible refine gate_callee (f := 15) rfl ?_); refine goesL_ (some 11) rfl rfl Try.func15 (by kernel_rfl) rfl #[.string a0] rfl (by (try simp only [List.map_toArray, List.map_cons, List.map_nil]); first | done | rfl | (simp only [List.length_drop, List.length_take]; rfl)) ?_; (with_reducible refine (wire_GetNum.calls a0 t141 t142 t143 _ A2.out).mono ?_); rintro e w7 ⟨rfl, hb⟩; refine ⟨_, rfl, ?_⟩; have n0_ := Aside0.mk (below_step (by repeat (first | (with_reducible first | exact HB.out | apply below_alloc | apply pw_below_drewN | apply below_drew1) | exact HB.out)) hb); clear HB; have HB := n0_; clear n0_; (try clear hb); (try clear hb2); (try clear hk); (try clear hi)))
        go_ret3
        exact ⟨by first | rfl | (simp [errW_none, errW_some] <;> rfl) | (simp [*, errW_none, errW_some] <;> rfl), by repeat (first | (with_reducible first | exact HB.out | apply below_alloc | apply pw_below_drewN | apply below_drew1) | exact HB.out)⟩
      · rw [if_neg c6] at H
        have c6b0 : decide (32768 < t141) = false := decide_eq_false c6
        clear c6
        by_cases c8 : (wrap64 ((t142.size : Int) - 4)) < t141
        · rw [if_pos c8] at H
          have c8b0 : decide ((wrap64 ((t142.size : Int) - 4)) < t141) = true := decide_eq_true c8
          clear c8
          simp only [Option.some.injEq, Prod.mk.injEq] at H
          obtain ⟨rfl, rfl, rfl⟩ := H
          go_enter Try.func8, Try.ntmps8
          go_wp2_with (first | ((with_reducible refine gate_callee (f := 15) rfl ?_); refine goesL_ (some 11) rfl rfl Try.func15 (by kernel_rfl) rfl #[.string a0] rfl (by (try simp only [List.map_toArray, List.map_cons, List.map_nil]); first | done | rfl | (simp only [List.length_drop, List.length_take]; rfl)) ?_; (with_reducible refine (wire_GetNum.calls a0 t141 t142 t143 _ A2.out).mono ?_); rintro e w9 ⟨rfl, hb⟩; refine ⟨_, rfl, ?_⟩; have n0_ := Aside0.mk (below_step (by repeat (first | (with_reducible first | exact HB.out | apply below_alloc | apply pw_below_drewN | apply below_drew1) | exact HB.out)) hb); clear HB; have HB := n0_; clear n0_; (try clear hb); (try clear hb2); (try clear hk); (try clear hi)))
          go_ret3
          exact ⟨by first | rfl | (simp [errW_none, errW_some] <;> rfl) | (simp [*, errW_none, errW_some] <;> rfl), by repeat (first | (with_reducible first | exact HB.out | apply below_alloc | apply pw_below_drewN | apply below_drew1) | exact HB.out)⟩
        · rw [if_neg c8] at H
          have c8b0 : decide ((wrap64 ((t142.size : Int) - 4)) < t141) = false := decide_eq_false c8
          clear c8
          by_cases c10 : 4 ≤ (wrap64 (4 + t141))
          · rw [if_pos c10] at H
            have c10b0 := eq_true c10
            have c10b1 : decide (4 ≤ (wrap64 (4 + t141))) = true := decide_eq_true c10
            by_cases c11 : (wrap64 (4 + t141)) ≤ (t142.size : Int)
            · rw [if_pos c11] at H
              have c11b0 := eq_true c11
              have c11b1 : decide ((wrap64 (4 + t141)) ≤ (t142.size : Int)) = true := decide_eq_true c11
              by_cases c12 : 0 ≤ 4
              · rw [if_pos c12] at H
                have c12b0 := eq_true c12
                have c12b1 : decide (0 ≤ 4) = true := decide_eq_true c12
                clear c12
                by_cases c13 : 4 ≤ (t142.size : Int)
                · rw [if_pos c13] at H
                  have c13b0 := eq_true c13
                  have c13b1 : decide (4 ≤ (t142.size : Int)) = true := decide_eq_true c13
                  clear c13
                  replace H := Option.bind_eq_some_iff.mp H
                  obtain ⟨t144, A140, H⟩ := H
                  replace H : ((sum_bytes.f t144).bind fun t145 => (if (t142.extract 0 4).toList = t145.toList then (if 0 ≤ (wrap64 (4 + t141)) then (some (t142.extract 4 ((wrap64 (4 + t141)) : Int).toNat, t142.extract ((wrap64 (4 + t141)) : Int).toNat t142.size, 0)) else (none)) else (some ((⟨#[]⟩ : ByteArray), (⟨#[]⟩ : ByteArray), 6)))) = some (r1, r2, r3) := H
                  have A14 := Aside0.mk A140
                  clear A140
                  replace H := Option.bind_eq_some_iff.mp H
                  obtain ⟨t145, A150, H⟩ := H
                  replace H : (if (t142.extract 0 4).toList = t145.toList then (if 0 ≤ (wrap64 (4 + t141)) then (some (t142.extract 4 ((wrap64 (4 + t141)) : Int).toNat, t142.extract ((wrap64 (4 + t141)) : Int).toNat t142.size, 0)) else (none)) else (some ((⟨#[]⟩ : ByteArray), (⟨#[]⟩ : ByteArray), 6))) = some (r1, r2, r3) := H
                  have A15 := Aside0.mk A150
                  clear A150
                  by_cases c16 : (t142.extract 0 4).toList = t145.toList
                  · rw [if_pos c16] at H
                    have c16b0 : ((t142.extract 0 4).toList == t145.toList) = true := beq_iff_eq.mpr c16
                    have c16b1 : ((t142.extract 0 4).toList != t145.toList) = false := bne_eq_false_iff_eq.mpr c16
                    clear c16
                    obtain ⟨ji17, hji17⟩ : ∃ j_ : Int, (wrap64 (4 + t141)) = j_ := ⟨_, rfl⟩
                    replace H : (if 0 ≤ (ji17) then (some (t142.extract 4 ((ji17) : Int).toNat, t142.extract ((ji17) : Int).toNat t142.size, 0)) else (none)) = some (r1, r2, r3) := by first | (rw [hji17] at H; exact H) | (simp only [hji17] at H ⊢; exact H)
                    (try rw [hji17] at c10b0)
                    (try rw [hji17] at c10b1)
                    (try rw [hji17] at c10)
                    (try rw [hji17] at c11b0)
                    (try rw [hji17] at c11b1)
                    (try rw [hji17] at c11)
                    (try rw [hji17] at A2)
                    (try rw [hji17] at A14)
                    (try rw [hji17] at A15)
                    have hji17w : (IntKind.i64.wrap (4 + t141)) = ji17 := (i64_w _).trans hji17
                    by_cases c18 : 0 ≤ (ji17)
                    · rw [if_pos c18] at H
                      have c18b0 := eq_true c18
                      have c18b1 : decide (0 ≤ (ji17)) = true := decide_eq_true c18
                      clear c18
                      have c19b0 := eq_true (of_decide_eq_true (by first | (with_reducible assumption) | assumption) : (ji17) ≤ (t142.size : Int))
                      simp only [Option.some.injEq, Prod.mk.injEq] at H
                      obtain ⟨rfl, rfl, rfl⟩ := H
                      go_enter Try.func8, Try.ntmps8
                      try go_wp2_with (first | ((with_reducible refine gate_callee (f := 15) rfl ?_); refine goesL_ (some 11) rfl rfl Try.func15 (by kernel_rfl) rfl #[.string a0] rfl (by (try simp only [List.map_toArray, List.map_cons, List.map_nil]); first | done | rfl | (simp only [List.length_drop, List.length_take]; rfl)) ?_; (with_reducible refine (wire_GetNum.calls a0 t141 t142 t143 _ A2.out).mono ?_); rintro e w20 ⟨rfl, hb⟩; refine ⟨_, rfl, ?_⟩; have n0_ := Aside0.mk (below_step (by repeat (first | (with_reducible first | exact HB.out | apply below_alloc | apply pw_below_drewN | apply below_drew1) | exact HB.out)) hb); clear HB; have HB := n0_; clear n0_; (try clear hb); (try clear hb2); (try clear hk); (try clear hi)))
                      have n0_ := Aside0.mk (below_drew1 HB.out)
                      clear HB
                      have HB := n0_
                      clear n0_
                      refine start_ (n := 6) (S := fun w' => True) (ds := []) #[false, false, false, false, false, false] (by kernel_rfl) rfl rfl trivial (fun hHeld => ?_)
                      generalize w20.drew = w21 at HB hHeld ⊢
                      refine pure_ (i := 0) (N := some 35) (v := ?_) (a' := ?_) #[true, false, false, false, false, false] rfl rfl (by kernel_rfl) (fun _ _ _ h => h) (Or.inl ⟨by rfl, ?_⟩) ?_ ?_
                      rotate_left
                      · intro w'
                        go_simp
                        with_reducible rfl
                      rotate_left
                      · simp only [Act.put, List.setIfInBounds_toArray, List.set_cons_zero, List.set_cons_succ, i64_w, i32_w]
                        rfl
                      refine pure_ (i := 1) (N := some 36) (v := ?_) (a' := ?_) #[true, true, false, false, false, false] rfl rfl (by kernel_rfl) (fun _ _ _ h => h) (Or.inl ⟨by rfl, ?_⟩) ?_ ?_
                      rotate_left
                      · intro w'
                        go_simp
                        with_reducible rfl
                      rotate_left
                      · simp only [Act.put, List.setIfInBounds_toArray, List.set_cons_zero, List.set_cons_succ, i64_w, i32_w]
                        rfl
                      refine pure_ (i := 2) (N := some 37) (v := ?_) (a' := ?_) #[true, true, true, false, false, false] rfl rfl (by kernel_rfl) (fun _ _ _ h => h) (Or.inl ⟨by rfl, ?_⟩) ?_ ?_
                      rotate_left
                      · intro w'
                        go_simp
                        with_reducible rfl
                      rotate_left
                      · simp only [Act.put, List.setIfInBounds_toArray, List.set_cons_zero, List.set_cons_succ, i64_w, i32_w]
                        rfl
                      refine one_ (i := 3) (N := some 38) #[true, true, true, true, false, false] rfl rfl (by kernel_rfl) (by decide) (fun K hK => ?_)
                      refine goes_ Try.func14 (by kernel_rfl) rfl #[.string (t142.extract 4 ((ji17) : Int).toNat)] (by rfl) rfl rfl (by (try simp only [List.map_toArray, List.map_cons, List.map_nil]); first | done | (simp only [hji17]; rfl) | rfl | (simp only [List.length_drop, List.length_take]; rfl)) ?_
                      with_reducible refine (sum_Of.calls (t142.extract 4 ((ji17) : Int).toNat) t144 _ A14.out).mono ?_
                      rintro e w22 ⟨rfl, hb⟩
                      refine ⟨_, rfl, ?_⟩
                      have n0_ := Aside0.mk (below_step (by repeat (first | (with_reducible first | exact HB.out | apply below_alloc | apply pw_below_drewN | apply below_drew1) | exact HB.out)) hb)
                      clear HB
                      have HB := n0_
                      clear n0_
                      (try clear hb)
                      (try clear hb2)
                      (try clear hk)
                      (try clear hi)
                      refine hK.out _ _ trivial (fun hHeld => ?_)
                      clear hK K
                      refine norm_ (a' := ?_) ?_ ?_
                      rotate_left
                      · show Act.put _ (some 38) _ = _
                        simp only [Act.put, List.setIfInBounds_toArray, List.set_cons_zero, List.set_cons_succ, i64_w, i32_w]
                        rfl
                      refine one_ (i := 4) (N := some 39) #[true, true, true, true, true, false] rfl rfl (by kernel_rfl) (by decide) (fun K hK => ?_)
                      refine goes_ Try.func19 (by kernel_rfl) rfl #[.int .u32 t144] (by rfl) rfl rfl (by (try simp only [List.map_toArray, List.map_cons, List.map_nil]); first | done | rfl | (simp only [List.length_drop, List.length_take]; rfl)) ?_
                      with_reducible refine (sum_bytes.calls t144 t145 _ A15.out).mono ?_
                      rintro e w23 ⟨rfl, hb⟩
                      refine ⟨_, rfl, ?_⟩
                      have n0_ := Aside0.mk (below_step (by repeat (first | (with_reducible first | exact HB.out | apply below_alloc | apply pw_below_drewN | apply below_drew1) | exact HB.out)) hb)
                      clear HB
                      have HB := n0_
                      clear n0_
                      (try clear hb)
                      (try clear hb2)
                      (try clear hk)
                      (try clear hi)
                      refine hK.out _ _ trivial (fun hHeld => ?_)
                      clear hK K
                      refine norm_ (a' := ?_) ?_ ?_
                      rotate_left
                      · show Act.put _ (some 39) _ = _
                        simp only [Act.put, List.setIfInBounds_toArray, List.set_cons_zero, List.set_cons_succ, i64_w, i32_w]
                        rfl
                      refine pure_ (i := 5) (N := some 40) (v := ?_) (a' := ?_) #[true, true, true, true, true, true] rfl rfl (by kernel_rfl) (fun _ _ _ h => h) (Or.inl ⟨by rfl, ?_⟩) ?_ ?_
                      rotate_left
                      · intro w'
                        go_simp
                        with_reducible rfl
                      rotate_left
                      · simp only [Act.put, List.setIfInBounds_toArray, List.set_cons_zero, List.set_cons_succ, i64_w, i32_w]
                        rfl
                      refine done_ (by kernel_rfl) ?_
                      try go_wp2
                      have n0_ := Aside0.mk (below_drew1 HB.out)
                      clear HB
                      have HB := n0_
                      clear n0_
                      refine start_ (n := 8) (S := fun w' => True) (ds := []) #[false, false, false, false, false, false, false, false] (by kernel_rfl) rfl rfl trivial (fun hHeld => ?_); refine with_tabW sum_Next.tab13 sum_Next.bits13 (fun HT_ HW_ => ?_)
                      generalize w23.drew = w24 at HB hHeld ⊢
                      refine pure_ (i := 0) (N := some 41) (v := ?_) (a' := ?_) #[true, false, false, false, false, false, false, false] rfl rfl (any_of HT_.out (by kernel_rfl)) (fun _ _ _ h => h) (Or.inl ⟨by rfl, ?_⟩) ?_ ?_
                      rotate_left
                      · intro w'
                        go_simp
                        with_reducible rfl
                      rotate_left
                      · simp only [Act.put, List.setIfInBounds_toArray, List.set_cons_zero, List.set_cons_succ, i64_w, i32_w]
                        rfl
                      refine pure_ (i := 1) (N := some 42) (v := ?_) (a' := ?_) #[true, true, false, false, false, false, false, false] rfl rfl (any_of HT_.out (by kernel_rfl)) (fun _ _ _ h => h) (Or.inl ⟨by rfl, ?_⟩) ?_ ?_
                      rotate_left
                      · intro w'
                        go_simp
                        with_reducible rfl
                      rotate_left
                      · simp only [Act.put, List.setIfInBounds_toArray, List.set_cons_zero, List.set_cons_succ, i64_w, i32_w]
                        rfl
                      refine pure_ (i := 2) (N := some 43) (v := ?_) (a' := ?_) #[true, true, true, false, false, false, false, false] rfl rfl (any_of HT_.out (by kernel_rfl)) (fun _ _ _ h => h) (Or.inl ⟨by rfl, ?_⟩) ?_ ?_
                      rotate_left
                      · intro w'
                        go_simp
                        with_reducible rfl
                      rotate_left
                      · simp only [Act.put, List.setIfInBounds_toArray, List.set_cons_zero, List.set_cons_succ, i64_w, i32_w]
                        rfl
                      refine pure_ (i := 3) (N := some 44) (v := ?_) (a' := ?_) #[true, true, true, true, false, false, false, false] rfl rfl (any_of HT_.out (by kernel_rfl)) (fun _ _ _ h => h) (Or.inl ⟨by rfl, ?_⟩) ?_ ?_
                      rotate_left
                      · intro w'
                        go_simp
                        with_reducible rfl
                      rotate_left
                      · simp only [Act.put, List.setIfInBounds_toArray, List.set_cons_zero, List.set_cons_succ, i64_w, i32_w]
                        rfl
                      refine pure_ (i := 4) (N := some 45) (v := ?_) (a' := ?_) #[true, true, true, true, true, false, false, false] rfl rfl (any_of HT_.out (by kernel_rfl)) (fun _ _ _ h => h) (Or.inl ⟨by rfl, ?_⟩) ?_ ?_
                      rotate_left
                      · intro w'
                        go_simp
                        with_reducible rfl
                      rotate_left
                      · simp only [Act.put, List.setIfInBounds_toArray, List.set_cons_zero, List.set_cons_succ, i64_w, i32_w]
                        rfl
                      refine pure_ (i := 5) (N := some 2) (v := ?_) (a' := ?_) #[true, true, true, true, true, true, false, false] rfl rfl (any_of HT_.out (by kernel_rfl)) (fun _ _ _ h => h) (Or.inl ⟨by rfl, ?_⟩) ?_ ?_
                      rotate_left
                      · intro w'
                        go_simp
                        with_reducible rfl
                      rotate_left
                      · simp only [Act.put, List.setIfInBounds_toArray, List.set_cons_zero, List.set_cons_succ, i64_w, i32_w]
                        rfl
                      refine pure_ (i := 6) (N := some 3) (v := ?_) (a' := ?_) #[true, true, true, true, true, true, true, false] rfl rfl (any_of HT_.out (by kernel_rfl)) (fun _ _ _ h => h) (Or.inl ⟨by rfl, ?_⟩) ?_ ?_
                      rotate_left
                      · intro w'
                        go_simp
                        with_reducible rfl
                      rotate_left
                      · simp only [Act.put, List.setIfInBounds_toArray, List.set_cons_zero, List.set_cons_succ, i64_w, i32_w]
                        rfl
                      refine pure_ (i := 7) (N := some 4) (v := ?_) (a' := ?_) #[true, true, true, true, true, true, true, true] rfl rfl (any_of HT_.out (by kernel_rfl)) (fun _ _ _ h => h) (Or.inl ⟨by rfl, ?_⟩) ?_ ?_
                      rotate_left
                      · intro w'
                        go_simp
                        with_reducible rfl
                      rotate_left
                      · simp only [Act.put, List.setIfInBounds_toArray, List.set_cons_zero, List.set_cons_succ, i64_w, i32_w]
                        rfl
                      refine done_ (done_of HT_.out (by kernel_rfl)) ?_
                      try go_wp2
                      go_ret3
                      exact ⟨by first | rfl | (simp [errW_none, errW_some] <;> rfl) | (simp only [← hji17]; first | rfl | (simp [errW_none, errW_some] <;> rfl)) | (simp [*, errW_none, errW_some] <;> rfl), by repeat (first | (with_reducible first | exact HB.out | apply below_alloc | apply pw_below_drewN | apply below_drew1) | exact HB.out)⟩
                    · rw [if_neg c18] at H
                      exact absurd H (by simp)
                  · rw [if_neg c16] at H
                    have c16b0 : ((t142.extract 0 4).toList == t145.toList) = false := beq_eq_false_iff_ne.mpr c16
                    have c16b1 : ((t142.extract 0 4).toList != t145.toList) = true := bne_iff_ne.mpr c16
                    simp only [Option.some.injEq, Prod.mk.injEq] at H
                    obtain ⟨rfl, rfl, rfl⟩ := H
                    go_enter Try.func8, Try.ntmps8
                    try go_wp2_with (first | ((with_reducible refine gate_callee (f := 15) rfl ?_); refine goesL_ (some 11) rfl rfl Try.func15 (by kernel_rfl) rfl #[.string a0] rfl (by (try simp only [List.map_toArray, List.map_cons, List.map_nil]); first | done | rfl | (simp only [List.length_drop, List.length_take]; rfl)) ?_; (with_reducible refine (wire_GetNum.calls a0 t141 t142 t143 _ A2.out).mono ?_); rintro e w25 ⟨rfl, hb⟩; refine ⟨_, rfl, ?_⟩; have n0_ := Aside0.mk (below_step (by repeat (first | (with_reducible first | exact HB.out | apply below_alloc | apply pw_below_drewN | apply below_drew1) | exact HB.out)) hb); clear HB; have HB := n0_; clear n0_; (try clear hb); (try clear hb2); (try clear hk); (try clear hi)))
                    have n0_ := Aside0.mk (below_drew1 HB.out)
                    clear HB
                    have HB := n0_
                    clear n0_
                    refine start_ (n := 6) (S := fun w' => True) (ds := []) #[false, false, false, false, false, false] (by kernel_rfl) rfl rfl trivial (fun hHeld => ?_)
                    generalize w25.drew = w26 at HB hHeld ⊢
                    refine pure_ (i := 0) (N := some 35) (v := ?_) (a' := ?_) #[true, false, false, false, false, false] rfl rfl (by kernel_rfl) (fun _ _ _ h => h) (Or.inl ⟨by rfl, ?_⟩) ?_ ?_
                    rotate_left
                    · intro w'
                      go_simp
                      with_reducible rfl
                    rotate_left
                    · simp only [Act.put, List.setIfInBounds_toArray, List.set_cons_zero, List.set_cons_succ, i64_w, i32_w]
                      rfl
                    refine pure_ (i := 1) (N := some 36) (v := ?_) (a' := ?_) #[true, true, false, false, false, false] rfl rfl (by kernel_rfl) (fun _ _ _ h => h) (Or.inl ⟨by rfl, ?_⟩) ?_ ?_
                    rotate_left
                    · intro w'
                      go_simp
                      with_reducible rfl
                    rotate_left
                    · simp only [Act.put, List.setIfInBounds_toArray, List.set_cons_zero, List.set_cons_succ, i64_w, i32_w]
                      rfl
                    refine pure_ (i := 2) (N := some 37) (v := ?_) (a' := ?_) #[true, true, true, false, false, false] rfl rfl (by kernel_rfl) (fun _ _ _ h => h) (Or.inl ⟨by rfl, ?_⟩) ?_ ?_
                    rotate_left
                    · intro w'
                      go_simp
                      with_reducible rfl
                    rotate_left
                    · simp only [Act.put, List.setIfInBounds_toArray, List.set_cons_zero, List.set_cons_succ, i64_w, i32_w]
                      rfl
                    refine one_ (i := 3) (N := some 38) #[true, true, true, true, false, false] rfl rfl (by kernel_rfl) (by decide) (fun K hK => ?_)
                    refine goes_ Try.func14 (by kernel_rfl) rfl #[.string (t142.extract 4 ((wrap64 (4 + t141)) : Int).toNat)] (by rfl) rfl rfl (by (try simp only [List.map_toArray, List.map_cons, List.map_nil]); first | done | rfl | (simp only [List.length_drop, List.length_take]; rfl)) ?_
                    with_reducible refine (sum_Of.calls (t142.extract 4 ((wrap64 (4 + t141)) : Int).toNat) t144 _ A14.out).mono ?_
                    rintro e w27 ⟨rfl, hb⟩
                    refine ⟨_, rfl, ?_⟩
                    have n0_ := Aside0.mk (below_step (by repeat (first | (with_reducible first | exact HB.out | apply below_alloc | apply pw_below_drewN | apply below_drew1) | exact HB.out)) hb)
                    clear HB
                    have HB := n0_
                    clear n0_
                    (try clear hb)
                    (try clear hb2)
                    (try clear hk)
                    (try clear hi)
                    refine hK.out _ _ trivial (fun hHeld => ?_)
                    clear hK K
                    refine norm_ (a' := ?_) ?_ ?_
                    rotate_left
                    · show Act.put _ (some 38) _ = _
                      simp only [Act.put, List.setIfInBounds_toArray, List.set_cons_zero, List.set_cons_succ, i64_w, i32_w]
                      rfl
                    refine one_ (i := 4) (N := some 39) #[true, true, true, true, true, false] rfl rfl (by kernel_rfl) (by decide) (fun K hK => ?_)
                    refine goes_ Try.func19 (by kernel_rfl) rfl #[.int .u32 t144] (by rfl) rfl rfl (by (try simp only [List.map_toArray, List.map_cons, List.map_nil]); first | done | rfl | (simp only [List.length_drop, List.length_take]; rfl)) ?_
                    with_reducible refine (sum_bytes.calls t144 t145 _ A15.out).mono ?_
                    rintro e w28 ⟨rfl, hb⟩
                    refine ⟨_, rfl, ?_⟩
                    have n0_ := Aside0.mk (below_step (by repeat (first | (with_reducible first | exact HB.out | apply below_alloc | apply pw_below_drewN | apply below_drew1) | exact HB.out)) hb)
                    clear HB
                    have HB := n0_
                    clear n0_
                    (try clear hb)
                    (try clear hb2)
                    (try clear hk)
                    (try clear hi)
                    refine hK.out _ _ trivial (fun hHeld => ?_)
                    clear hK K
                    refine norm_ (a' := ?_) ?_ ?_
                    rotate_left
                    · show Act.put _ (some 39) _ = _
                      simp only [Act.put, List.setIfInBounds_toArray, List.set_cons_zero, List.set_cons_succ, i64_w, i32_w]
                      rfl
                    refine pure_ (i := 5) (N := some 40) (v := ?_) (a' := ?_) #[true, true, true, true, true, true] rfl rfl (by kernel_rfl) (fun _ _ _ h => h) (Or.inl ⟨by rfl, ?_⟩) ?_ ?_
                    rotate_left
                    · intro w'
                      go_simp
                      with_reducible rfl
                    rotate_left
                    · simp only [Act.put, List.setIfInBounds_toArray, List.set_cons_zero, List.set_cons_succ, i64_w, i32_w]
                      rfl
                    refine done_ (by kernel_rfl) ?_
                    try go_wp2
                    go_ret3
                    exact ⟨by first | rfl | (simp [errW_none, errW_some] <;> rfl) | (simp [*, errW_none, errW_some] <;> rfl), by repeat (first | (with_reducible first | exact HB.out | apply below_alloc | apply pw_below_drewN | apply below_drew1) | exact HB.out)⟩
                · rw [if_neg c13] at H
                  exact absurd H (by simp)
              · rw [if_neg c12] at H
                exact absurd H (by simp)
            · rw [if_neg c11] at H
              exact absurd H (by simp)
          · rw [if_neg c10] at H
            exact absurd H (by simp)
  · rw [if_neg c3] at H
    have c3b0 : (t143 == 0) = false := beq_eq_false_iff_ne.mpr c3
    have c3b1 : (t143 != 0) = true := bne_iff_ne.mpr c3
    simp only [Option.some.injEq, Prod.mk.injEq] at H
    obtain ⟨rfl, rfl, rfl⟩ := H
    go_enter Try.func8, Try.ntmps8
    go_wp2_with (first | ((with_reducible refine gate_callee (f := 15) rfl ?_); refine goesL_ (some 11) rfl rfl Try.func15 (by kernel_rfl) rfl #[.string a0] rfl (by (try simp only [List.map_toArray, List.map_cons, List.map_nil]); first | done | rfl | (simp only [List.length_drop, List.length_take]; rfl)) ?_; (with_reducible refine (wire_GetNum.calls a0 t141 t142 t143 _ A2.out).mono ?_); rintro e w29 ⟨rfl, hb⟩; refine ⟨_, rfl, ?_⟩; have n0_ := Aside0.mk (below_step (by repeat (first | (with_reducible first | exact HB.out | apply below_alloc | apply pw_below_drewN | apply below_drew1) | exact HB.out)) hb); clear HB; have HB := n0_; clear n0_; (try clear hb); (try clear hb2); (try clear hk); (try clear hi)))
    go_ret3
    exact ⟨by first | rfl | (simp [errW_none, errW_some] <;> rfl) | (simp [*, errW_none, errW_some] <;> rfl), by repeat (first | (with_reducible first | exact HB.out | apply below_alloc | apply pw_below_drewN | apply below_drew1) | exact HB.out)⟩

/-! ### wire_List_string: function 20, by hand -/
def wire_ListT.l0 : Nat → Int → ByteArray → Int → List ByteArray → Int → Option (List ByteArray × ByteArray × Int)
  | 0, _, _, _, _, _ => none
  | k + 1, n, s, why, out, i => if i < n then ((wire_Reader_Text.f k s why).bind fun t => if t.2.2 = 0 then (if out.length < 8796093022208 then wire_ListT.l0 k n t.2.1 t.2.2 (out ++ [t.1]) (wrap64 (i + 1)) else none) else some ([], t.2.1, t.2.2)) else some (out, s, why)
def wire_ListT.f (k : Nat) (s : ByteArray) (why : Int) : Option (List ByteArray × ByteArray × Int) := (wire_Reader_Many.f s why 1024).bind fun t => wire_ListT.l0 k t.1 t.2.1 t.2.2 [] 0
theorem wire_ListT.mono_l : ∀ (k : Nat) n s why out i, LeO (wire_ListT.l0 k n s why out i) (wire_ListT.l0 (k + 1) n s why out i)
  | 0, _, _, _, _, _ => fun r h => by simp [wire_ListT.l0] at h
  | k + 1, n, s, why, out, i => by
    rw [wire_ListT.l0, wire_ListT.l0]
    refine LeO.ite (LeO.bind (wire_Reader_Text.mono _ _ _) (fun t => LeO.ite (LeO.ite (wire_ListT.mono_l k _ _ _ _ _) (LeO.refl _)) (LeO.refl _))) (LeO.refl _)
theorem wire_ListT.mono (s : ByteArray) (why : Int) (k : Nat) : LeO (wire_ListT.f k s why) (wire_ListT.f (k + 1) s why) := LeO.bind (LeO.refl _) (fun t => wire_ListT.mono_l k _ _ _ _ _)
set_option maxHeartbeats 400000 in
set_option maxRecDepth 100000 in
theorem wire_ListT.calls (k : Nat) (g : Nat) (s : ByteArray) (why : Int) (r1 : List ByteArray) (r2 : ByteArray) (r3 : Int) (w0 w : World) (hI : IsS50 w0 w g s why) (hB : Below w0.heap.size w0 w) (h : wire_ListT.f k s why = some (r1, r2, r3)) :
    Calls Try.prog 20 #[.pointer (some ⟨g, 0, none⟩), .func (.func 21) #[.pointer (some ⟨g, 0, none⟩)] #[]] w fun e w' => ∃ v0_ : Value, e = .returned v0_ ∧ Kd.R (Kd.string) 9 w' w0.heap.size (fun k_ => k_ ≠ g) v0_ r1 ∧ IsS50 w0 w' g r2 r3 ∧ Below w0.heap.size w0 w' := by
  have H : ((wire_Reader_Many.f s why 1024).bind fun t => wire_ListT.l0 k t.1 t.2.1 t.2.2 [] 0) = some (r1, r2, r3) := h
  clear h
  replace H := Option.bind_eq_some_iff.mp H
  obtain ⟨⟨n, s1, y1⟩, A1, H⟩ := H
  replace A1 := Lib.hid A1
  have HH := Lib.hid H; clear H
  have HI := Lib.hid hI; have HB := Lib.hid hB; clear hI hB
  have hu := Try.underlying50
  go_enter Try.func20, Try.ntmps20
  go_wp2_with (go_at_call 29; refine (wire_Reader_Many.calls g s why 1024 n s1 y1 w0 _ HI.out HB.out A1.out).mono ?_; rintro e w1 ⟨rfl, hi1, hb1, hk1⟩)
  have HI1 := Lib.hid hi1; have HB1 := Lib.hid hb1; clear hi1 hb1 hk1 HI HB
  go_loopg [5, 9] k (fun kq v5 v9 w' => ∃ (s2 : ByteArray) (y2 : Int) (out : List ByteArray) (i : Int), v9 = .int .i64 i ∧ Hid (wire_ListT.l0 kq n s2 y2 out i = some (r1, r2, r3)) ∧ Hid (kq ≤ k) ∧ Hid (Kd.R (Kd.string) 9 w' w0.heap.size (fun k_ => k_ ≠ g) v5 out) ∧ Hid (IsS50 w0 w' g s2 y2) ∧ Hid (Below w0.heap.size w0 w'))
  case atStart => exact ⟨s1, y1, [], 0, rfl, HH, Lib.hid (Nat.le_refl _), Lib.hid (Kd.R_nil _ _ _ _ _), HI1, HB1⟩
  case round =>
    clear HH HI1 HB1
    obtain ⟨s2, y2, out, i, rfl, HA, HK, HO, HI, HB⟩ := hrel
    cases gk with
    | zero => exact absurd HA.out (by simp [wire_ListT.l0])
    | succ k1 =>
      have H := HA.out
      clear HA
      simp only [wire_ListT.l0] at H
      by_cases c1 : i < n
      · rw [if_pos c1] at H
        have c1b : decide (i < n) = true := decide_eq_true c1
        replace H := Option.bind_eq_some_iff.mp H
        obtain ⟨⟨x, s3, y3⟩, A2, H⟩ := H
        replace A2 := Lib.hid A2
        by_cases c2 : y3 = 0
        · simp only at H
          rw [if_pos c2] at H
          have c2b : (y3 != 0) = false := bne_eq_false_iff_eq.mpr c2
          by_cases c3 : out.length < 8796093022208
          · rw [if_pos c3] at H
            subst c2
            have HH := Lib.hid H; clear H
            go_wp2_with (first | (go_at_call 21; refine (wire_Reader_Text.calls k1 g s2 y2 x s3 0 w0 _ HI.out HB.out A2.out).mono ?_; rintro e w3 ⟨rfl, hi3, hb3, hk3⟩; have HI3 := Lib.hid hi3; have HB3 := Lib.hid hb3; have HO3 := Lib.hid (Kd.R_keep HO.out hk3 (fun _ h => h)); have hc3 := cellS50_1 hi3.1; clear hi3 hb3 hk3 HI HB HO) | ((with_reducible refine gate_builtin (b := .append) (xs := #[.tmp 18, .tmp 20]) rfl ?_); at_builtin; refine Kd.R_append (Kd.string) (w0 := w0) w0.heap.size rfl (.tmp 18) (.tmp 20) 22 9 (.string ByteArray.empty) 16 rfl Try.underlying22 info9 rfl (by decide) (by omega) u5 out x [.string x] (fun k_ => k_ ≠ g) (fun _ => False) rfl rfl ?aP (fun _ hk => hk.elim) ?aF ?aO ?aB ?aS ?aL ?_; (case aP => exact rfl); (case aB => exact HB3.out); (case aF => exact (fun k_ hk_ => HI3.out.fresh k_ hk_)); (case aO => exact HO3.out); (case aS => exact HB3.out.size); (case aL => omega); intro v9 w9 ho hb hg hat))
            have HI9 := HI3.out.grown hg (HI3.out.own_ne HO3.out (by decide))
            go_roundg k1
            case measure => have := HK.out; omega
            case rel => exact ⟨s3, 0, out ++ [x], wrap64 (i + 1), rfl, HH, Lib.hid (by have := HK.out; omega), Lib.hid ho, Lib.hid HI9, Lib.hid hb⟩
          · rw [if_neg c3] at H; cases H
        · simp only at H
          rw [if_neg c2] at H
          have c2b : (y3 != 0) = true := bne_iff_ne.mpr c2
          simp only [Option.some.injEq, Prod.mk.injEq] at H
          obtain ⟨rfl, rfl, rfl⟩ := H
          go_wp2_with (go_at_call 21; refine (wire_Reader_Text.calls k1 g s2 y2 x s3 y3 w0 _ HI.out HB.out A2.out).mono ?_; rintro e w3 ⟨rfl, hi3, hb3, hk3⟩; have HI3 := Lib.hid hi3; have HB3 := Lib.hid hb3; have HO3 := Lib.hid (Kd.R_keep HO.out hk3 (fun _ h => h)); have hc3 := cellS50_1 hi3.1; clear hi3 hb3 hk3 HI HB HO)
          go_ret
          exact ⟨_, rfl, Kd.R_nil _ _ _ _ _, HI3.out, HB3.out⟩
      · rw [if_neg c1] at H
        have c1b : decide (i < n) = false := decide_eq_false c1
        simp only [Option.some.injEq, Prod.mk.injEq] at H
        obtain ⟨rfl, rfl, rfl⟩ := H
        go_wp2
        go_ret
        exact ⟨_, rfl, HO.out, HI.out, HB.out⟩

/-! ### wire_Reader_rest: function 22 -/
def wire_Reader_rest.f (s0_0 : ByteArray) (s0_1 : Int) : Option (ByteArray × Int × ByteArray × Int) := if s0_1 = 0 then (some (s0_0, 0, s0_0, s0_1)) else (some ((⟨#[]⟩ : ByteArray), s0_1, s0_0, s0_1))
set_option maxHeartbeats 8000000 in
set_option maxRecDepth 100000 in
theorem wire_Reader_rest.calls (g : Nat) (s0_0 : ByteArray) (s0_1 : Int) (r1 : ByteArray) (r2 : Int) (r3 : ByteArray) (r4 : Int) (w0 w : World) (hI : IsS50 w0 w g s0_0 s0_1) (hB : Below w0.heap.size w0 w) (h : wire_Reader_rest.f s0_0 s0_1 = some (r1, r2, r3, r4)) :
    Calls Try.prog 22 #[.pointer (some ⟨g, 0, none⟩)] w fun e w' => e = .returned (.tuple #[.string r1, .int .i64 r2]) ∧ IsS50 w0 w' g r3 r4 ∧ Below w0.heap.size w0 w' ∧ KeepBut w w' g none := by
  have HI0 := Aside0.mk hI
  have HK := Aside0.mk (KeepBut.refl w g none)
  have HL := Aside0.mk hB.size
  clear hI
  have HW0 := Aside0.mk hB.size
  have HB := Aside0.mk hB
  clear hB
  have H : (if s0_1 = 0 then (some (s0_0, 0, s0_0, s0_1)) else (some ((⟨#[]⟩ : ByteArray), s0_1, s0_0, s0_1))) = some (r1, r2, r3, r4) := h
  clear h
  by_cases c2 : s0_1 = 0
  · rw [if_pos c2] at H
    have c2b0 : (s0_1 == 0) = true := beq_iff_eq.mpr c2
    have c2b1 : (s0_1 != 0) = false := bne_eq_false_iff_eq.mpr c2
    clear c2
    simp only [Option.some.injEq, Prod.mk.injEq] at H
    obtain ⟨rfl, rfl, rfl, rfl⟩ := H
    obtain ⟨HGz3, hgz3⟩ := HI0.out
    have hcz3_0 := cellS50_0 HGz3
    have hcz3_1 := cellS50_1 HGz3
    have hfz3_0 := blk_frozen HGz3 0
    have hfz3_1 := blk_frozen HGz3 1
    clear HGz3 hgz3
    go_enter Try.func22, Try.ntmps22
    go_wp2
    repeat (go_quiet (fail); try go_wp2)
    go_ret2
    exact ⟨by first | rfl | (simp [errW_none, errW_some] <;> rfl) | (simp [*, errW_none, errW_some] <;> rfl), by repeat (first | (with_reducible first | exact HI0.out | apply IsS50.alloc | apply IsS50.drewN | apply IsS50.drew | apply IsS50.set_0 | apply IsS50.set_1) | exact HI0.out), by repeat (first | (with_reducible first | exact HB.out | apply below_alloc | apply pw_below_drewN | apply below_drew1 | refine below_set ?_ (IsS50.ge HI0.out)) | exact HB.out), by repeat (first | (with_reducible first | exact HK.out | apply KeepBut.set_ | apply keep_drewN | apply keep_drew | apply keep_alloc) | exact HK.out)⟩
  · rw [if_neg c2] at H
    have c2b0 : (s0_1 == 0) = false := beq_eq_false_iff_ne.mpr c2
    have c2b1 : (s0_1 != 0) = true := bne_iff_ne.mpr c2
    simp only [Option.some.injEq, Prod.mk.injEq] at H
    obtain ⟨rfl, rfl, rfl, rfl⟩ := H
    obtain ⟨HGz4, hgz4⟩ := HI0.out
    have hcz4_0 := cellS50_0 HGz4
    have hcz4_1 := cellS50_1 HGz4
    have hfz4_0 := blk_frozen HGz4 0
    have hfz4_1 := blk_frozen HGz4 1
    clear HGz4 hgz4
    go_enter Try.func22, Try.ntmps22
    go_wp2
    repeat (go_quiet (fail); try go_wp2)
    go_ret2
    exact ⟨by first | rfl | (simp [errW_none, errW_some] <;> rfl) | (simp [*, errW_none, errW_some] <;> rfl), by repeat (first | (with_reducible first | exact HI0.out | apply IsS50.alloc | apply IsS50.drewN | apply IsS50.drew | apply IsS50.set_0 | apply IsS50.set_1) | exact HI0.out), by repeat (first | (with_reducible first | exact HB.out | apply below_alloc | apply pw_below_drewN | apply below_drew1 | refine below_set ?_ (IsS50.ge HI0.out)) | exact HB.out), by repeat (first | (with_reducible first | exact HK.out | apply KeepBut.set_ | apply keep_drewN | apply keep_drew | apply keep_alloc) | exact HK.out)⟩

/-! ### wire_GetTexts: function 9, by hand -/
def wire_GetTexts.f (k : Nat) (a0 : ByteArray) : Option (List ByteArray × ByteArray × Int) :=
  (wire_ListT.f k a0 0).bind fun t => (wire_Reader_rest.f t.2.1 t.2.2).bind fun u => some (t.1, u.1, u.2.1)
theorem wire_GetTexts.mono : ∀ a0 k, LeO (wire_GetTexts.f k a0) (wire_GetTexts.f (k + 1) a0) := by
  intro a0 k
  unfold wire_GetTexts.f
  exact LeO.bind (wire_ListT.mono _ _ _) (fun _ => LeO.refl _)
set_option maxHeartbeats 400000 in
set_option maxRecDepth 100000 in
theorem wire_GetTexts.calls (k : Nat) (a0 : ByteArray) (r1 : List ByteArray) (r2 : ByteArray) (r3 : Int) (w : World) (h : wire_GetTexts.f k a0 = some (r1, r2, r3)) :
    Calls Try.prog 9 #[.string a0] w fun e w' => ∃ v0_ : Value, e = .returned (.tuple #[v0_, .string r2, .int .i64 r3]) ∧ Kd.R (Kd.string) 9 w' w.heap.size (fun _ => True) v0_ r1 ∧ Below w.heap.size w w' := by
  unfold wire_GetTexts.f at h
  obtain ⟨⟨t, s1, y1⟩, h1, h⟩ := Option.bind_eq_some_iff.mp h
  obtain ⟨⟨q, y2, s3, y3⟩, h2, h⟩ := Option.bind_eq_some_iff.mp h
  simp only [Option.some.injEq, Prod.mk.injEq] at h
  obtain ⟨rfl, rfl, rfl⟩ := h
  have H1 := Lib.hid h1
  have H2 := Lib.hid h2
  clear h1 h2
  have hI := IsS50.new w w a0 0 (Below.refl _ _)
  have HI := Lib.hid hI; clear hI
  have hu := Try.underlying50
  have hmf : ∀ (fn : Fn) (first cap : Array Value) (w : World), (Instr.makeFunc fn first cap).run Try.prog w = .ok (.func fn first cap) w := fun _ _ _ _ => rfl
  go_enter Try.func9, Try.ntmps9
  go_wp2_with (first
    | (go_at_call 20; refine (wire_ListT.calls k w.heap.size a0 0 _ _ _ w _ HI.out (below_alloc (Below.refl _ _) _) H1.out).mono ?_; rintro e w1 ⟨v1, rfl, ho1, hi1, hb1⟩; have HO1 := Lib.hid ho1; have HI1 := Lib.hid hi1; have HB1 := Lib.hid hb1; clear ho1 hi1 hb1)
    | (go_at_call 22; refine (wire_Reader_rest.calls w.heap.size s1 y1 _ _ _ _ w _ HI1.out HB1.out H2.out).mono ?_; rintro e w2 ⟨rfl, hi2, hb2, hk2⟩; have HB2 := Lib.hid hb2; have HO2 := Lib.hid (Kd.R_keep HO1.out hk2 (fun _ h => h)); clear hi2 hb2 hk2))
  go_ret3
  exact ⟨_, rfl, Kd.R_mono HO2.out (fun _ _ => trivial), HB2.out⟩


/-! ### wire_List_int64: function 23, by hand -/
def wire_ListN.l0 : Nat → Int → ByteArray → Int → List Int → Int → Option (List Int × ByteArray × Int)
  | 0, _, _, _, _, _ => none
  | k + 1, n, s, why, out, i => if i < n then ((wire_Reader_Num.f s why).bind fun t => if t.2.2 = 0 then (if out.length < 17592186044416 then wire_ListN.l0 k n t.2.1 t.2.2 (out ++ [t.1]) (wrap64 (i + 1)) else none) else some ([], t.2.1, t.2.2)) else some (out, s, why)
def wire_ListN.f (k : Nat) (s : ByteArray) (why : Int) : Option (List Int × ByteArray × Int) := (wire_Reader_Many.f s why 1024).bind fun t => wire_ListN.l0 k t.1 t.2.1 t.2.2 [] 0
theorem wire_ListN.mono_l : ∀ (k : Nat) n s why out i, LeO (wire_ListN.l0 k n s why out i) (wire_ListN.l0 (k + 1) n s why out i)
  | 0, _, _, _, _, _ => fun r h => by simp [wire_ListN.l0] at h
  | k + 1, n, s, why, out, i => by
    rw [wire_ListN.l0, wire_ListN.l0]
    refine LeO.ite (LeO.bind (LeO.refl _) (fun t => LeO.ite (LeO.ite (wire_ListN.mono_l k _ _ _ _ _) (LeO.refl _)) (LeO.refl _))) (LeO.refl _)
theorem wire_ListN.mono (s : ByteArray) (why : Int) (k : Nat) : LeO (wire_ListN.f k s why) (wire_ListN.f (k + 1) s why) := LeO.bind (LeO.refl _) (fun t => wire_ListN.mono_l k _ _ _ _ _)
set_option maxHeartbeats 400000 in
set_option maxRecDepth 100000 in
theorem wire_ListN.calls (k : Nat) (g : Nat) (s : ByteArray) (why : Int) (r1 : List Int) (r2 : ByteArray) (r3 : Int) (w0 w : World) (hI : IsS50 w0 w g s why) (hB : Below w0.heap.size w0 w) (h : wire_ListN.f k s why = some (r1, r2, r3)) :
    Calls Try.prog 23 #[.pointer (some ⟨g, 0, none⟩), .func (.func 24) #[.pointer (some ⟨g, 0, none⟩)] #[]] w fun e w' => ∃ v0_ : Value, e = .returned v0_ ∧ Kd.R (Kd.int .i64) 2 w' w0.heap.size (fun k_ => k_ ≠ g) v0_ r1 ∧ IsS50 w0 w' g r2 r3 ∧ Below w0.heap.size w0 w' := by
  have H : ((wire_Reader_Many.f s why 1024).bind fun t => wire_ListN.l0 k t.1 t.2.1 t.2.2 [] 0) = some (r1, r2, r3) := h
  clear h
  replace H := Option.bind_eq_some_iff.mp H
  obtain ⟨⟨n, s1, y1⟩, A1, H⟩ := H
  replace A1 := Lib.hid A1
  have HH := Lib.hid H; clear H
  have HI := Lib.hid hI; have HB := Lib.hid hB; clear hI hB
  have hu := Try.underlying50
  go_enter Try.func23, Try.ntmps23
  go_wp2_with (go_at_call 29; refine (wire_Reader_Many.calls g s why 1024 n s1 y1 w0 _ HI.out HB.out A1.out).mono ?_; rintro e w1 ⟨rfl, hi1, hb1, hk1⟩)
  have HI1 := Lib.hid hi1; have HB1 := Lib.hid hb1; clear hi1 hb1 hk1 HI HB
  go_loopg [5, 9] k (fun kq v5 v9 w' => ∃ (s2 : ByteArray) (y2 : Int) (out : List Int) (i : Int), v9 = .int .i64 i ∧ Hid (wire_ListN.l0 kq n s2 y2 out i = some (r1, r2, r3)) ∧ Hid (kq ≤ k) ∧ Hid (Kd.R (Kd.int .i64) 2 w' w0.heap.size (fun k_ => k_ ≠ g) v5 out) ∧ Hid (IsS50 w0 w' g s2 y2) ∧ Hid (Below w0.heap.size w0 w'))
  case atStart => exact ⟨s1, y1, [], 0, rfl, HH, Lib.hid (Nat.le_refl _), Lib.hid (Kd.R_nil _ _ _ _ _), HI1, HB1⟩
  case round =>
    clear HH HI1 HB1
    obtain ⟨s2, y2, out, i, rfl, HA, HK, HO, HI, HB⟩ := hrel
    cases gk with
    | zero => exact absurd HA.out (by simp [wire_ListN.l0])
    | succ k1 =>
      have H := HA.out
      clear HA
      simp only [wire_ListN.l0] at H
      by_cases c1 : i < n
      · rw [if_pos c1] at H
        have c1b : decide (i < n) = true := decide_eq_true c1
        replace H := Option.bind_eq_some_iff.mp H
        obtain ⟨⟨x, s3, y3⟩, A2, H⟩ := H
        replace A2 := Lib.hid A2
        by_cases c2 : y3 = 0
        · simp only at H
          rw [if_pos c2] at H
          have c2b : (y3 != 0) = false := bne_eq_false_iff_eq.mpr c2
          by_cases c3 : out.length < 17592186044416
          · rw [if_pos c3] at H
            subst c2
            have HH := Lib.hid H; clear H
            go_wp2_with (first | (go_at_call 24; refine (wire_Reader_Num.calls g s2 y2 x s3 0 w0 _ HI.out HB.out A2.out).mono ?_; rintro e w3 ⟨rfl, hi3, hb3, hk3⟩; have HI3 := Lib.hid hi3; have HB3 := Lib.hid hb3; have HO3 := Lib.hid (Kd.R_keep HO.out hk3 (fun _ h => h)); have hc3 := cellS50_1 hi3.1; clear hi3 hb3 hk3 HI HB HO) | ((with_reducible refine gate_builtin (b := .append) (xs := #[.tmp 18, .tmp 20]) rfl ?_); at_builtin; refine Kd.R_append (Kd.int .i64) (w0 := w0) w0.heap.size rfl (.tmp 18) (.tmp 20) 23 2 (.int .i64 0) 8 rfl Try.underlying23 info2 rfl (by decide) (by omega) u5 out x [.int .i64 x] (fun k_ => k_ ≠ g) (fun _ => False) rfl rfl ?aP (fun _ hk => hk.elim) ?aF ?aO ?aB ?aS ?aL ?_; (case aP => exact rfl); (case aB => exact HB3.out); (case aF => exact (fun k_ hk_ => HI3.out.fresh k_ hk_)); (case aO => exact HO3.out); (case aS => exact HB3.out.size); (case aL => omega); intro v9 w9 ho hb hg hat))
            have HI9 := HI3.out.grown hg (HI3.out.own_ne HO3.out (by decide))
            go_roundg k1
            case measure => have := HK.out; omega
            case rel => exact ⟨s3, 0, out ++ [x], wrap64 (i + 1), rfl, HH, Lib.hid (by have := HK.out; omega), Lib.hid ho, Lib.hid HI9, Lib.hid hb⟩
          · rw [if_neg c3] at H; cases H
        · simp only at H
          rw [if_neg c2] at H
          have c2b : (y3 != 0) = true := bne_iff_ne.mpr c2
          simp only [Option.some.injEq, Prod.mk.injEq] at H
          obtain ⟨rfl, rfl, rfl⟩ := H
          go_wp2_with (go_at_call 24; refine (wire_Reader_Num.calls g s2 y2 x s3 y3 w0 _ HI.out HB.out A2.out).mono ?_; rintro e w3 ⟨rfl, hi3, hb3, hk3⟩; have HI3 := Lib.hid hi3; have HB3 := Lib.hid hb3; have HO3 := Lib.hid (Kd.R_keep HO.out hk3 (fun _ h => h)); have hc3 := cellS50_1 hi3.1; clear hi3 hb3 hk3 HI HB HO)
          go_ret
          exact ⟨_, rfl, Kd.R_nil _ _ _ _ _, HI3.out, HB3.out⟩
      · rw [if_neg c1] at H
        have c1b : decide (i < n) = false := decide_eq_false c1
        simp only [Option.some.injEq, Prod.mk.injEq] at H
        obtain ⟨rfl, rfl, rfl⟩ := H
        go_wp2
        go_ret
        exact ⟨_, rfl, HO.out, HI.out, HB.out⟩

/-! ### wire_GetNums: function 10, by hand -/
def wire_GetNums.f (k : Nat) (a0 : ByteArray) : Option (List Int × ByteArray × Int) :=
  (wire_ListN.f k a0 0).bind fun t => (wire_Reader_rest.f t.2.1 t.2.2).bind fun u => some (t.1, u.1, u.2.1)
theorem wire_GetNums.mono : ∀ a0 k, LeO (wire_GetNums.f k a0) (wire_GetNums.f (k + 1) a0) := by
  intro a0 k
  unfold wire_GetNums.f
  exact LeO.bind (wire_ListN.mono _ _ _) (fun _ => LeO.refl _)
set_option maxHeartbeats 400000 in
set_option maxRecDepth 100000 in
theorem wire_GetNums.calls (k : Nat) (a0 : ByteArray) (r1 : List Int) (r2 : ByteArray) (r3 : Int) (w : World) (h : wire_GetNums.f k a0 = some (r1, r2, r3)) :
    Calls Try.prog 10 #[.string a0] w fun e w' => ∃ v0_ : Value, e = .returned (.tuple #[v0_, .string r2, .int .i64 r3]) ∧ Kd.R (Kd.int .i64) 2 w' w.heap.size (fun _ => True) v0_ r1 ∧ Below w.heap.size w w' := by
  unfold wire_GetNums.f at h
  obtain ⟨⟨t, s1, y1⟩, h1, h⟩ := Option.bind_eq_some_iff.mp h
  obtain ⟨⟨q, y2, s3, y3⟩, h2, h⟩ := Option.bind_eq_some_iff.mp h
  simp only [Option.some.injEq, Prod.mk.injEq] at h
  obtain ⟨rfl, rfl, rfl⟩ := h
  have H1 := Lib.hid h1
  have H2 := Lib.hid h2
  clear h1 h2
  have hI := IsS50.new w w a0 0 (Below.refl _ _)
  have HI := Lib.hid hI; clear hI
  have hu := Try.underlying50
  have hmf : ∀ (fn : Fn) (first cap : Array Value) (w : World), (Instr.makeFunc fn first cap).run Try.prog w = .ok (.func fn first cap) w := fun _ _ _ _ => rfl
  go_enter Try.func10, Try.ntmps10
  go_wp2_with (first
    | (go_at_call 23; refine (wire_ListN.calls k w.heap.size a0 0 _ _ _ w _ HI.out (below_alloc (Below.refl _ _) _) H1.out).mono ?_; rintro e w1 ⟨v1, rfl, ho1, hi1, hb1⟩; have HO1 := Lib.hid ho1; have HI1 := Lib.hid hi1; have HB1 := Lib.hid hb1; clear ho1 hi1 hb1)
    | (go_at_call 22; refine (wire_Reader_rest.calls w.heap.size s1 y1 _ _ _ _ w _ HI1.out HB1.out H2.out).mono ?_; rintro e w2 ⟨rfl, hi2, hb2, hk2⟩; have HB2 := Lib.hid hb2; have HO2 := Lib.hid (Kd.R_keep HO1.out hk2 (fun _ h => h)); clear hi2 hb2 hk2))
  go_ret3
  exact ⟨_, rfl, Kd.R_mono HO2.out (fun _ _ => trivial), HB2.out⟩


/-! ### bellmantop_texts: function 11 -/
def bellmantop_texts.l0 : Nat → List ByteArray → List ByteArray → Int → Int → Option (Bool)
  | 0, _, _, _, _ => none
  | k + 1, x0, x1, x12, x13 => if x13 < x12 then (if 0 ≤ x13 then (if x13 < (x0.length : Int) then (if x13 < (x1.length : Int) then (if (rdOf ByteArray.empty x0 x13).toList = (rdOf ByteArray.empty x1 x13).toList then (bellmantop_texts.l0 k x0 x1 x12 (wrap64 (x13 + 1))) else (some false)) else (none)) else (none)) else (none)) else (some true)
def bellmantop_texts.f (k : Nat) (l0 : List ByteArray) (l1 : List ByteArray) : Option (Bool) := if (l0.length : Int) = (l1.length : Int) then (bellmantop_texts.l0 k l0 l1 (l0.length : Int) 0) else (some false)
theorem bellmantop_texts.mono_l : ∀ k, (∀ y0 y1 y2 y3, LeO (bellmantop_texts.l0 k y0 y1 y2 y3) (bellmantop_texts.l0 (k + 1) y0 y1 y2 y3))
  | 0 => fun _ _ _ _ r h => by simp [bellmantop_texts.l0] at h
  | k + 1 => by
    have ih0 := bellmantop_texts.mono_l k
    · intro y0 y1 y2 y3
      unfold bellmantop_texts.l0
      repeat' first
      | (with_reducible exact ih0 _ _ _ _)
      | (with_reducible exact LeO.refl _)
      | (with_reducible exact LeO.none _)
      | (with_reducible refine LeO.ite ?_ ?_)
      | (with_reducible refine LeO.bind ?_ (fun _ => ?_))
      | exact ih0 _ _ _ _
      | exact LeO.none _
      | refine LeO.ite ?_ ?_
      | refine LeO.bind ?_ (fun _ => ?_)
theorem bellmantop_texts.mono : ∀ a0 a1 k, LeO (bellmantop_texts.f k a0 a1) (bellmantop_texts.f (k + 1) a0 a1) := by
  intro a0 a1 k
  have ih0 := bellmantop_texts.mono_l k
  unfold bellmantop_texts.f
  repeat' first
      | (with_reducible exact ih0 _ _ _ _)
      | (with_reducible exact LeO.refl _)
      | (with_reducible exact LeO.none _)
      | (with_reducible refine LeO.ite ?_ ?_)
      | (with_reducible refine LeO.bind ?_ (fun _ => ?_))
      | exact ih0 _ _ _ _
      | exact LeO.none _
      | refine LeO.ite ?_ ?_
      | refine LeO.bind ?_ (fun _ => ?_)
set_option maxHeartbeats 8000000 in
set_option maxRecDepth 100000 in
theorem bellmantop_texts.calls (k : Nat) (A0 : Option Addr) (c0 : Nat) (l0 : List ByteArray) (A1 : Option Addr) (c1 : Nat) (l1 : List ByteArray) (r : Bool) (w : World) (hr0 : Kd.C Kd.string w A0 l0.length l0) (hc0 : l0.length ≤ c0) (hr1 : Kd.C Kd.string w A1 l1.length l1) (hc1 : l1.length ≤ c1) (h : bellmantop_texts.f k l0 l1 = some r) :
    Calls Try.prog 11 #[.slice A0 l0.length c0, .slice A1 l1.length c1] w fun e w' => e = .returned (.bool r) ∧ Drawn0 w w' := by
  have HR0 := Aside0.mk hr0
  have HC0 := Aside0.mk hc0
  clear hr0 hc0
  have HR1 := Aside0.mk hr1
  have HC1 := Aside0.mk hc1
  clear hr1 hc1
  have H : (if (l0.length : Int) = (l1.length : Int) then (bellmantop_texts.l0 k l0 l1 (l0.length : Int) 0) else (some false)) = some r := h
  clear h
  by_cases c3 : (l0.length : Int) = (l1.length : Int)
  · rw [if_pos c3] at H
    have c3b0 : ((l0.length : Int) == (l1.length : Int)) = true := beq_iff_eq.mpr c3
    have c3b1 : ((l0.length : Int) != (l1.length : Int)) = false := bne_eq_false_iff_eq.mpr c3
    have c3b2 : (l0.length == l1.length) = true := by first | simpa using c3 | (simp at c3 ⊢; omega)
    clear c3
    have H' := Aside0.mk H
    clear H
    go_enter Try.func11, Try.ntmps11
    go_wp2
    repeat (go_quiet (fail); try go_wp2)
    go_loopg [13] k (fun kq v13 w' => ∃ (x13_1 : Int), v13 = .int .i64 x13_1 ∧ Aside0 (bellmantop_texts.l0 kq l0 l1 (l0.length : Int) x13_1 = some r) ∧ Aside0 (kq ≤ k) ∧ Drawn0 w w')
    case atStart => exact ⟨(0), (by first | rfl | (simp; done) | (simp [*]; done)), H', ⟨Nat.le_refl _⟩, by repeat (first | exact Drawn0.refl _ | apply Drawn0.step)⟩
    case round =>
      clear H'
      try clear c1
      try clear p2
      try clear c3
      try clear c3b0
      try clear c3b1
      try clear c3b2
      obtain ⟨x13_1, rfl, HA, HK1, ⟨m1, rfl⟩⟩ := hrel
      cases gk with
      | zero => exact absurd HA.out (by simp [bellmantop_texts.l0])
      | succ k1 =>
        have H := HA.out
        clear HA
        simp only [bellmantop_texts.l0] at H
        by_cases c4 : x13_1 < (l0.length : Int)
        · rw [if_pos c4] at H
          have c4b0 : decide (x13_1 < (l0.length : Int)) = true := decide_eq_true c4
          clear c4
          by_cases c5 : 0 ≤ x13_1
          · rw [if_pos c5] at H
            have c5b0 : decide (0 ≤ x13_1) = true := decide_eq_true c5
            clear c5
            by_cases c6 : x13_1 < (l0.length : Int)
            · rw [if_pos c6] at H
              have c6b0 : decide (x13_1 < (l0.length : Int)) = true := decide_eq_true c6
              clear c6
              by_cases c7 : x13_1 < (l1.length : Int)
              · rw [if_pos c7] at H
                have c7b0 : decide (x13_1 < (l1.length : Int)) = true := decide_eq_true c7
                clear c7
                by_cases c8 : (rdOf ByteArray.empty l0 x13_1).toList = (rdOf ByteArray.empty l1 x13_1).toList
                · rw [if_pos c8] at H
                  have c8b0 : ((rdOf ByteArray.empty l0 x13_1).toList == (rdOf ByteArray.empty l1 x13_1).toList) = true := beq_iff_eq.mpr c8
                  have c8b1 : ((rdOf ByteArray.empty l0 x13_1).toList != (rdOf ByteArray.empty l1 x13_1).toList) = false := bne_eq_false_iff_eq.mpr c8
                  clear c8
                  have H' := Aside0.mk H
                  clear H
                  have p146 : 0 ≤ (x13_1 : Int) := of_decide_eq_true (by first | (with_reducible assumption) | assumption)
                  have q146 : x13_1 < (l0.length : Int) := of_decide_eq_true (by first | (with_reducible assumption) | assumption)
                  obtain ⟨ad146, e146, hx146_0⟩ := Kd.at_string HR0.out x13_1 p146 q146
                  cases e146
                  replace p146 := eq_true p146
                  replace q146 := eq_true q146
                  have p147 : 0 ≤ (x13_1 : Int) := of_decide_eq_true (by first | (with_reducible assumption) | assumption)
                  have q147 : x13_1 < (l1.length : Int) := of_decide_eq_true (by first | (with_reducible assumption) | assumption)
                  obtain ⟨ad147, e147, hx147_0⟩ := Kd.at_string HR1.out x13_1 p147 q147
                  cases e147
                  replace p147 := eq_true p147
                  replace q147 := eq_true q147
                  go_wp2
                  repeat (go_quiet (fail); try go_wp2)
                  go_roundg k1
                  case measure => have := HK1.out; omega
                  case rel => exact ⟨(wrap64 (x13_1 + 1)), (by first | rfl | (simp; done) | (simp [*]; done)), H', ⟨by have := HK1.out; omega⟩, by repeat (first | exact Drawn0.refl _ | apply Drawn0.step)⟩
                · rw [if_neg c8] at H
                  have c8b0 : ((rdOf ByteArray.empty l0 x13_1).toList == (rdOf ByteArray.empty l1 x13_1).toList) = false := beq_eq_false_iff_ne.mpr c8
                  have c8b1 : ((rdOf ByteArray.empty l0 x13_1).toList != (rdOf ByteArray.empty l1 x13_1).toList) = true := bne_iff_ne.mpr c8
                  obtain rfl := Option.some.inj H
                  have p146 : 0 ≤ (x13_1 : Int) := of_decide_eq_true (by first | (with_reducible assumption) | assumption)
                  have q146 : x13_1 < (l0.length : Int) := of_decide_eq_true (by first | (with_reducible assumption) | assumption)
                  obtain ⟨ad146, e146, hx146_0⟩ := Kd.at_string HR0.out x13_1 p146 q146
                  cases e146
                  replace p146 := eq_true p146
                  replace q146 := eq_true q146
                  have p147 : 0 ≤ (x13_1 : Int) := of_decide_eq_true (by first | (with_reducible assumption) | assumption)
                  have q147 : x13_1 < (l1.length : Int) := of_decide_eq_true (by first | (with_reducible assumption) | assumption)
                  obtain ⟨ad147, e147, hx147_0⟩ := Kd.at_string HR1.out x13_1 p147 q147
                  cases e147
                  replace p147 := eq_true p147
                  replace q147 := eq_true q147
                  go_wp2
                  repeat (go_quiet (fail); try go_wp2)
                  go_ret
                  exact ⟨by first | rfl | (simp; done) | (simp [*]; done), by repeat (first | exact Drawn0.refl _ | apply Drawn0.step)⟩
              · rw [if_neg c7] at H
                exact absurd H (by simp)
            · rw [if_neg c6] at H
              exact absurd H (by simp)
          · rw [if_neg c5] at H
            exact absurd H (by simp)
        · rw [if_neg c4] at H
          have c4b0 : decide (x13_1 < (l0.length : Int)) = false := decide_eq_false c4
          clear c4
          obtain rfl := Option.some.inj H
          go_wp2
          repeat (go_quiet (fail); try go_wp2)
          go_ret
          exact ⟨by first | rfl | (simp; done) | (simp [*]; done), by repeat (first | exact Drawn0.refl _ | apply Drawn0.step)⟩
  · rw [if_neg c3] at H
    have c3b0 : ((l0.length : Int) == (l1.length : Int)) = false := beq_eq_false_iff_ne.mpr c3
    have c3b1 : ((l0.length : Int) != (l1.length : Int)) = true := bne_iff_ne.mpr c3
    have c3b2 : (l0.length == l1.length) = false := by first | simpa using c3 | (simp at c3 ⊢; omega)
    obtain rfl := Option.some.inj H
    go_enter Try.func11, Try.ntmps11
    go_wp2
    repeat (go_quiet (fail); try go_wp2)
    go_ret
    exact ⟨by first | rfl | (simp; done) | (simp [*]; done), by repeat (first | exact Drawn0.refl _ | apply Drawn0.step)⟩

/-! ### sum_Fold: function 12, by hand -/
def sum_fold (l : List ByteArray) (n : Int) : Nat → Int
  | 0 => n
  | k + 1 => sum_to (rdOf ByteArray.empty l k) (sum_fold l n k) (rdOf ByteArray.empty l k).size
def sum_Fold.f (l0 : List ByteArray) : Option Int := if ∀ s ∈ l0, s.size ≤ 9223372036854775806 then some (Go.bits .xor .u32 IntKind.u32.max (sum_fold l0 4294967295 l0.length)) else none
set_option maxHeartbeats 400000 in
set_option maxRecDepth 100000 in
theorem sum_Fold.calls (A0 : Option Addr) (c0 : Nat) (l0 : List ByteArray) (r : Int) (w : World) (hr0 : Kd.C Kd.string w A0 l0.length l0) (hc0 : l0.length ≤ c0) (h : sum_Fold.f l0 = some r) :
    Calls Try.prog 12 #[.slice A0 l0.length c0] w fun e w' => e = .returned (.int .u32 r) ∧ Below w.heap.size w w' := by
  unfold sum_Fold.f at h
  split at h
  rotate_left
  · cases h
  rename_i hs
  obtain rfl := Option.some.inj h
  clear h
  have hsg : IntKind.u32.signed = false := rfl
  have hlen : l0.length ≤ 9223372036854775807 := hr0.2.1
  have HR0 := Lib.hid hr0
  have HS := Lib.hid hs
  clear hr0 hs
  go_enter Try.func12, Try.ntmps12
  go_wp2_with (go_at_call 25; refine (sum_halves _).mono ?_; rintro e w1 ⟨rfl, hb1⟩; have HB1 := Lib.hid hb1; clear hb1)
  have HI0 : Hid (sum_Reg w1.heap.size 4294967295 (w1.alloc (.cells (sum_reg 4294967295) 60))) := Lib.hid (heap_alloc_new w1 _)
  have HB0 : Hid (Below w.heap.size w (w1.alloc (.cells (sum_reg 4294967295) 60))) := Lib.hid (HB1.out.alloc HB1.out.size _)
  have HG : Hid (w.heap.size ≤ w1.heap.size) := Lib.hid HB1.out.size
  clear HB1
  go_loopw [11] (fun v11 wr => ∃ k : Nat, k ≤ l0.length ∧ v11 = .int .i64 k ∧ Hid (sum_Reg w1.heap.size (sum_fold l0 4294967295 k) wr) ∧ Hid (Below w.heap.size w wr)) (fun v11 _ => l0.length - (intOf v11).toNat)
  case atStart => exact ⟨0, by omega, rfl, HI0, HB0⟩
  case round =>
    clear HI0 HB0
    obtain ⟨k, hk, rfl, HI, HB⟩ := hrel
    by_cases hlt : k < l0.length
    · obtain ⟨ad, had, hx⟩ := Kd.at_string (Kd.C_below HR0.out HB.out) (k : Int) (by omega) (by omega)
      subst had
      simp only [Int.toNat_natCast] at hx
      have HM := Lib.hid (HS.out (rdOf ByteArray.empty l0 k) (by
        unfold rdOf
        rw [Int.toNat_natCast, List.getD_eq_getElem?_getD, List.getElem?_eq_getElem hlt]
        exact List.getElem_mem hlt))
      obtain ⟨s, hsv⟩ : ∃ s, rdOf ByteArray.empty l0 (k : Int) = s := ⟨_, rfl⟩
      rw [hsv] at hx HM
      have HV := Lib.hid hsv; clear hsv
      obtain ⟨n, hn⟩ : ∃ n, sum_fold l0 4294967295 k = n := ⟨_, rfl⟩
      rw [hn] at HI
      have HN := Lib.hid (show sum_fold l0 4294967295 (k + 1) = sum_to s n s.size by
        show sum_to (rdOf ByteArray.empty l0 k) (sum_fold l0 4294967295 k) (rdOf ByteArray.empty l0 k).size = _
        rw [HV.out, hn])
      clear hn
      go_wp2_with (go_at_call 26; refine (sum_add w1.heap.size n s _ HI.out HM.out).mono ?_; rintro e w2 ⟨rfl, hr, hg⟩; have HR := Lib.hid hr; have HG2 := Lib.hid hg; clear hr hg)
      go_roundw
      case rel => exact ⟨k + 1, by omega, by go_num, Lib.hid (by rw [HN.out]; exact HR.out), Lib.hid (HB.out.grown HG2.out HB.out.size (fun q hq => by injection hq with hq; rw [← hq]; exact HG.out))⟩
      case measure => simp [intOf]; omega
    · obtain rfl : k = l0.length := by omega
      have hc := HI.out.cell0
      go_wp2
      go_ret
      exact ⟨rfl, HB.out⟩


end Go.Proofs.Ytddjklpkhdhfkaa.XT
