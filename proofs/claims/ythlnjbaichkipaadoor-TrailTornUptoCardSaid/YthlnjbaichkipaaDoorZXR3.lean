-- by px.py, a program of this session, over the kit's printer: functions given by hand stand beside printed ones. Lean checks all of it.
import Derived.Test.YthlnjbaichkipaaDoorZXR0
import Derived.Test.YthlnjbaichkipaaDoorZXR2
import Derived.Test.YthlnjbaichkipaaDoorZGDev
import Derived.Test.YthlnjbaichkipaaDoorZGIdxE
import Derived.Test.YthlnjbaichkipaaDoorZGLayB
import Derived.Test.YthlnjbaichkipaaDoorZGRange
import Derived.Shelf.Abstract
import Derived.Shelf.RegionOpenPlain
import Derived.RangeFuncNested
import Derived.RangeFuncBound
import Derived.RangeFuncCalls
import Derived.RangeFuncLeaves
import Derived.OwnWalkIn
import Derived.TacticsInMore
import Derived.LoopNIn
import Derived.LoopIn
namespace Go.Proofs.YthlnjbaichkipaaDoor.XR
open Go.RowKit Go.Proofs.YthlnjbaichkipaaDoorW.PrintWords Go.Proofs.YthlnjbaichkipaaDoorW.PrintLast Go.Proofs.YthlnjbaichkipaaDoorW.PrintMore
attribute [local go_sem] max2_int min2_int max_two min_two max_three min_three max_four min_four   -- for this text's walks alone
set_option linter.unusedVariables false
set_option linter.unusedSimpArgs false

def sum_Next.f (a0 : ByteArray) : Option (ByteArray × ByteArray × Int) := (wire_GetNum.f a0).bind fun bt111 => (if bt111.2.2 = 0 then (if bt111.1 < 0 then (some ((⟨#[]⟩ : ByteArray), (⟨#[]⟩ : ByteArray), 7)) else (if bt111.1 > 32768 then (some ((⟨#[]⟩ : ByteArray), (⟨#[]⟩ : ByteArray), 12)) else (if (wrap64 ((bt111.2.1.size : Int) - 4)) < bt111.1 then (some ((⟨#[]⟩ : ByteArray), (⟨#[]⟩ : ByteArray), 5)) else (if 4 ≤ (wrap64 (4 + bt111.1)) then (if (wrap64 (4 + bt111.1)) ≤ (bt111.2.1.size : Int) then (if 0 ≤ 4 then (if 4 ≤ (bt111.2.1.size : Int) then ((sum_Of.f (bt111.2.1.extract 4 ((wrap64 (4 + bt111.1)) : Int).toNat)).bind fun t114 => ((sum_bytes.f t114).bind fun t115 => (if (bt111.2.1.extract 0 4).toList = t115.toList then (if 0 ≤ (wrap64 (4 + bt111.1)) then (some (bt111.2.1.extract 4 ((wrap64 (4 + bt111.1)) : Int).toNat, bt111.2.1.extract ((wrap64 (4 + bt111.1)) : Int).toNat bt111.2.1.size, 0)) else (none)) else (some ((⟨#[]⟩ : ByteArray), (⟨#[]⟩ : ByteArray), 6))))) else (none)) else (none)) else (none)) else (none))))) else (some ((⟨#[]⟩ : ByteArray), (⟨#[]⟩ : ByteArray), bt111.2.2)))
def sum_Next.T13 : Bool × List (List Nat × List Nat) := (true, [([], []), ([], []), ([], []), ([2], [2]), ([1, 3], [1, 3]), ([0, 0], [0]), ([4, 5, 0, 1, 2, 3, 4, 5], [4]), ([6, 0, 1, 2, 3, 4, 5, 6], [])])
def sum_Next.B13 : List Nat := [0, 0, 0, 4, 14, 1, 63, 127]
theorem sum_Next.tab13 : rtab .any (opsOf Tryd.f55 13) = sum_Next.T13 := by kernel_rfl
theorem sum_Next.bits13 : waitsOk sum_Next.T13.2 sum_Next.B13 = true := by kernel_rfl
set_option maxHeartbeats 8000000 in
set_option maxRecDepth 100000 in
theorem sum_Next.calls (a0 : ByteArray) (r1 : ByteArray) (r2 : ByteArray) (r3 : Int) (w : World) (h : sum_Next.f a0 = some (r1, r2, r3)) :
  Calls Tryd.prog 55 #[.string a0] w fun e w' => e = .returned (.tuple #[.string r1, .string r2, .int .i64 r3]) ∧ Below w.heap.size w w' := by
 have HB := Aside0.mk (Below.refl w.heap.size w)
 have H : ((wire_GetNum.f a0).bind fun bt111 => (if bt111.2.2 = 0 then (if bt111.1 < 0 then (some ((⟨#[]⟩ : ByteArray), (⟨#[]⟩ : ByteArray), 7)) else (if bt111.1 > 32768 then (some ((⟨#[]⟩ : ByteArray), (⟨#[]⟩ : ByteArray), 12)) else (if (wrap64 ((bt111.2.1.size : Int) - 4)) < bt111.1 then (some ((⟨#[]⟩ : ByteArray), (⟨#[]⟩ : ByteArray), 5)) else (if 4 ≤ (wrap64 (4 + bt111.1)) then (if (wrap64 (4 + bt111.1)) ≤ (bt111.2.1.size : Int) then (if 0 ≤ 4 then (if 4 ≤ (bt111.2.1.size : Int) then ((sum_Of.f (bt111.2.1.extract 4 ((wrap64 (4 + bt111.1)) : Int).toNat)).bind fun t114 => ((sum_bytes.f t114).bind fun t115 => (if (bt111.2.1.extract 0 4).toList = t115.toList then (if 0 ≤ (wrap64 (4 + bt111.1)) then (some (bt111.2.1.extract 4 ((wrap64 (4 + bt111.1)) : Int).toNat, bt111.2.1.extract ((wrap64 (4 + bt111.1)) : Int).toNat bt111.2.1.size, 0)) else (none)) else (some ((⟨#[]⟩ : ByteArray), (⟨#[]⟩ : ByteArray), 6))))) else (none)) else (none)) else (none)) else (none))))) else (some ((⟨#[]⟩ : ByteArray), (⟨#[]⟩ : ByteArray), bt111.2.2)))) = some (r1, r2, r3) := h
 clear h
 replace H := Option.bind_eq_some_iff.mp H
 obtain ⟨⟨t111, t112, t113⟩, A20, H⟩ := H
 replace H : (if t113 = 0 then (if t111 < 0 then (some ((⟨#[]⟩ : ByteArray), (⟨#[]⟩ : ByteArray), 7)) else (if t111 > 32768 then (some ((⟨#[]⟩ : ByteArray), (⟨#[]⟩ : ByteArray), 12)) else (if (wrap64 ((t112.size : Int) - 4)) < t111 then (some ((⟨#[]⟩ : ByteArray), (⟨#[]⟩ : ByteArray), 5)) else (if 4 ≤ (wrap64 (4 + t111)) then (if (wrap64 (4 + t111)) ≤ (t112.size : Int) then (if 0 ≤ 4 then (if 4 ≤ (t112.size : Int) then ((sum_Of.f (t112.extract 4 ((wrap64 (4 + t111)) : Int).toNat)).bind fun t114 => ((sum_bytes.f t114).bind fun t115 => (if (t112.extract 0 4).toList = t115.toList then (if 0 ≤ (wrap64 (4 + t111)) then (some (t112.extract 4 ((wrap64 (4 + t111)) : Int).toNat, t112.extract ((wrap64 (4 + t111)) : Int).toNat t112.size, 0)) else (none)) else (some ((⟨#[]⟩ : ByteArray), (⟨#[]⟩ : ByteArray), 6))))) else (none)) else (none)) else (none)) else (none))))) else (some ((⟨#[]⟩ : ByteArray), (⟨#[]⟩ : ByteArray), t113))) = some (r1, r2, r3) := H
 have A2 := Aside0.mk A20
 clear A20
 by_cases c3 : t113 = 0
 ·rw [if_pos c3] at H
  have c3b0 : (t113 == 0) = true := beq_iff_eq.mpr c3
  have c3b1 : (t113 != 0) = false := bne_eq_false_iff_eq.mpr c3
  clear c3
  by_cases c4 : t111 < 0
  ·rw [if_pos c4] at H
   have c4b0 : decide (t111 < 0) = true := decide_eq_true c4
   clear c4
   simp only [Option.some.injEq, Prod.mk.injEq] at H
   obtain ⟨rfl, rfl, rfl⟩ := H
   go_enter Tryd.func55, Tryd.ntmps55
   go_wp2_with (first | ((with_reducible refine gate_callee (f := 31) rfl ?_); refine goesL_ (some 11) rfl rfl Tryd.func31 (by kernel_rfl) rfl #[.string a0] rfl (by (try simp only [List.map_toArray, List.map_cons, List.map_nil]); first | done | rfl | (simp only [List.length_drop, List.length_take]; rfl)) ?_; (with_reducible refine (wire_GetNum.calls a0 t111 t112 t113 _ A2.out).mono ?_); rintro e w5 ⟨rfl, hb⟩; refine ⟨_, rfl, ?_⟩; have n0_ := Aside0.mk (below_step (by repeat (first | (with_reducible first | exact HB.out | apply below_alloc | apply pw_below_drewN | apply below_drew1) | exact HB.out)) hb); clear HB; have HB := n0_; clear n0_; (try clear hb); (try clear hb2); (try clear hk); (try clear hi)))
   go_ret3
   exact ⟨by first | rfl | (simp [errW_none, errW_some] <;> rfl) | (simp [*, errW_none, errW_some] <;> rfl), by repeat (first | (with_reducible first | exact HB.out | apply below_alloc | apply pw_below_drewN | apply below_drew1) | exact HB.out)⟩
  ·rw [if_neg c4] at H
   have c4b0 : decide (t111 < 0) = false := decide_eq_false c4
   clear c4
   by_cases c6 : t111 > 32768
   ·rw [if_pos c6] at H
    have c6b0 : decide (32768 < t111) = true := decide_eq_true c6
    clear c6
    simp only [Option.some.injEq, Prod.mk.injEq] at H
    obtain ⟨rfl, rfl, rfl⟩ := H
    go_enter Tryd.func55, Tryd.ntmps55
    go_wp2_with (first | ((with_reducible refine gate_callee (f := 31) rfl ?_); refine goesL_ (some 11) rfl rfl Tryd.func31 (by kernel_rfl) rfl #[.string a0] rfl (by (try simp only [List.map_toArray, List.map_cons, List.map_nil]); first | done | rfl | (simp only [List.length_drop, List.length_take]; rfl)) ?_; (with_reducible refine (wire_GetNum.calls a0 t111 t112 t113 _ A2.out).mono ?_); rintro e w7 ⟨rfl, hb⟩; refine ⟨_, rfl, ?_⟩; have n0_ := Aside0.mk (below_step (by repeat (first | (with_reducible first | exact HB.out | apply below_alloc | apply pw_below_drewN | apply below_drew1) | exact HB.out)) hb); clear HB; have HB := n0_; clear n0_; (try clear hb); (try clear hb2); (try clear hk); (try clear hi)))
    go_ret3
    exact ⟨by first | rfl | (simp [errW_none, errW_some] <;> rfl) | (simp [*, errW_none, errW_some] <;> rfl), by repeat (first | (with_reducible first | exact HB.out | apply below_alloc | apply pw_below_drewN | apply below_drew1) | exact HB.out)⟩
   ·rw [if_neg c6] at H
    have c6b0 : decide (32768 < t111) = false := decide_eq_false c6
    clear c6
    by_cases c8 : (wrap64 ((t112.size : Int) - 4)) < t111
    ·rw [if_pos c8] at H
     have c8b0 : decide ((wrap64 ((t112.size : Int) - 4)) < t111) = true := decide_eq_true c8
     clear c8
     simp only [Option.some.injEq, Prod.mk.injEq] at H
     obtain ⟨rfl, rfl, rfl⟩ := H
     go_enter Tryd.func55, Tryd.ntmps55
     go_wp2_with (first | ((with_reducible refine gate_callee (f := 31) rfl ?_); refine goesL_ (some 11) rfl rfl Tryd.func31 (by kernel_rfl) rfl #[.string a0] rfl (by (try simp only [List.map_toArray, List.map_cons, List.map_nil]); first | done | rfl | (simp only [List.length_drop, List.length_take]; rfl)) ?_; (with_reducible refine (wire_GetNum.calls a0 t111 t112 t113 _ A2.out).mono ?_); rintro e w9 ⟨rfl, hb⟩; refine ⟨_, rfl, ?_⟩; have n0_ := Aside0.mk (below_step (by repeat (first | (with_reducible first | exact HB.out | apply below_alloc | apply pw_below_drewN | apply below_drew1) | exact HB.out)) hb); clear HB; have HB := n0_; clear n0_; (try clear hb); (try clear hb2); (try clear hk); (try clear hi)))
     go_ret3
     exact ⟨by first | rfl | (simp [errW_none, errW_some] <;> rfl) | (simp [*, errW_none, errW_some] <;> rfl), by repeat (first | (with_reducible first | exact HB.out | apply below_alloc | apply pw_below_drewN | apply below_drew1) | exact HB.out)⟩
    ·rw [if_neg c8] at H
     have c8b0 : decide ((wrap64 ((t112.size : Int) - 4)) < t111) = false := decide_eq_false c8
     clear c8
     by_cases c10 : 4 ≤ (wrap64 (4 + t111))
     ·rw [if_pos c10] at H
      have c10b0 := eq_true c10
      have c10b1 : decide (4 ≤ (wrap64 (4 + t111))) = true := decide_eq_true c10
      by_cases c11 : (wrap64 (4 + t111)) ≤ (t112.size : Int)
      ·rw [if_pos c11] at H
       have c11b0 := eq_true c11
       have c11b1 : decide ((wrap64 (4 + t111)) ≤ (t112.size : Int)) = true := decide_eq_true c11
       by_cases c12 : 0 ≤ 4
       ·rw [if_pos c12] at H
        have c12b0 := eq_true c12
        have c12b1 : decide (0 ≤ 4) = true := decide_eq_true c12
        clear c12
        by_cases c13 : 4 ≤ (t112.size : Int)
        ·rw [if_pos c13] at H
         have c13b0 := eq_true c13
         have c13b1 : decide (4 ≤ (t112.size : Int)) = true := decide_eq_true c13
         clear c13
         replace H := Option.bind_eq_some_iff.mp H
         obtain ⟨t114, A140, H⟩ := H
         replace H : ((sum_bytes.f t114).bind fun t115 => (if (t112.extract 0 4).toList = t115.toList then (if 0 ≤ (wrap64 (4 + t111)) then (some (t112.extract 4 ((wrap64 (4 + t111)) : Int).toNat, t112.extract ((wrap64 (4 + t111)) : Int).toNat t112.size, 0)) else (none)) else (some ((⟨#[]⟩ : ByteArray), (⟨#[]⟩ : ByteArray), 6)))) = some (r1, r2, r3) := H
         have A14 := Aside0.mk A140
         clear A140
         replace H := Option.bind_eq_some_iff.mp H
         obtain ⟨t115, A150, H⟩ := H
         replace H : (if (t112.extract 0 4).toList = t115.toList then (if 0 ≤ (wrap64 (4 + t111)) then (some (t112.extract 4 ((wrap64 (4 + t111)) : Int).toNat, t112.extract ((wrap64 (4 + t111)) : Int).toNat t112.size, 0)) else (none)) else (some ((⟨#[]⟩ : ByteArray), (⟨#[]⟩ : ByteArray), 6))) = some (r1, r2, r3) := H
         have A15 := Aside0.mk A150
         clear A150
         by_cases c16 : (t112.extract 0 4).toList = t115.toList
         ·rw [if_pos c16] at H
          have c16b0 : ((t112.extract 0 4).toList == t115.toList) = true := beq_iff_eq.mpr c16
          have c16b1 : ((t112.extract 0 4).toList != t115.toList) = false := bne_eq_false_iff_eq.mpr c16
          clear c16
          obtain ⟨ji17, hji17⟩ : ∃ j_ : Int, (wrap64 (4 + t111)) = j_ := ⟨_, rfl⟩
          replace H : (if 0 ≤ (ji17) then (some (t112.extract 4 ((ji17) : Int).toNat, t112.extract ((ji17) : Int).toNat t112.size, 0)) else (none)) = some (r1, r2, r3) := by first | (rw [hji17] at H; exact H) | (simp only [hji17] at H ⊢; exact H)
          (try rw [hji17] at c10b0)
          (try rw [hji17] at c10b1)
          (try rw [hji17] at c10)
          (try rw [hji17] at c11b0)
          (try rw [hji17] at c11b1)
          (try rw [hji17] at c11)
          (try rw [hji17] at A2)
          (try rw [hji17] at A14)
          (try rw [hji17] at A15)
          have hji17w : (IntKind.i64.wrap (4 + t111)) = ji17 := (i64_w _).trans hji17
          by_cases c18 : 0 ≤ (ji17)
          ·rw [if_pos c18] at H
           have c18b0 := eq_true c18
           have c18b1 : decide (0 ≤ (ji17)) = true := decide_eq_true c18
           clear c18
           have c19b0 := eq_true (of_decide_eq_true (by first | (with_reducible assumption) | assumption) : (ji17) ≤ (t112.size : Int))
           simp only [Option.some.injEq, Prod.mk.injEq] at H
           obtain ⟨rfl, rfl, rfl⟩ := H
           go_enter Tryd.func55, Tryd.ntmps55
           try go_wp2_with (first | ((with_reducible refine gate_callee (f := 31) rfl ?_); refine goesL_ (some 11) rfl rfl Tryd.func31 (by kernel_rfl) rfl #[.string a0] rfl (by (try simp only [List.map_toArray, List.map_cons, List.map_nil]); first | done | rfl | (simp only [List.length_drop, List.length_take]; rfl)) ?_; (with_reducible refine (wire_GetNum.calls a0 t111 t112 t113 _ A2.out).mono ?_); rintro e w20 ⟨rfl, hb⟩; refine ⟨_, rfl, ?_⟩; have n0_ := Aside0.mk (below_step (by repeat (first | (with_reducible first | exact HB.out | apply below_alloc | apply pw_below_drewN | apply below_drew1) | exact HB.out)) hb); clear HB; have HB := n0_; clear n0_; (try clear hb); (try clear hb2); (try clear hk); (try clear hi)))
           have n0_ := Aside0.mk (below_drew1 HB.out)
           clear HB
           have HB := n0_
           clear n0_
           refine start_ (n := 6) (S := fun w' => True) (ds := []) #[false, false, false, false, false, false] (by kernel_rfl) rfl rfl trivial (fun hHeld => ?_)
           generalize w20.drew = w21 at HB hHeld ⊢
           refine pure_ (i := 0) (N := some 35) (v := ?_) (a' := ?_) #[true, false, false, false, false, false] rfl rfl (by kernel_rfl) (fun _ _ _ h => h) (Or.inl ⟨by rfl, ?_⟩) ?_ ?_
           rotate_left
           ·intro w'
            go_simp
            with_reducible rfl
           rotate_left
           ·simp only [Act.put, List.setIfInBounds_toArray, List.set_cons_zero, List.set_cons_succ, i64_w, i32_w]
            rfl
           refine pure_ (i := 1) (N := some 36) (v := ?_) (a' := ?_) #[true, true, false, false, false, false] rfl rfl (by kernel_rfl) (fun _ _ _ h => h) (Or.inl ⟨by rfl, ?_⟩) ?_ ?_
           rotate_left
           ·intro w'
            go_simp
            with_reducible rfl
           rotate_left
           ·simp only [Act.put, List.setIfInBounds_toArray, List.set_cons_zero, List.set_cons_succ, i64_w, i32_w]
            rfl
           refine pure_ (i := 2) (N := some 37) (v := ?_) (a' := ?_) #[true, true, true, false, false, false] rfl rfl (by kernel_rfl) (fun _ _ _ h => h) (Or.inl ⟨by rfl, ?_⟩) ?_ ?_
           rotate_left
           ·intro w'
            go_simp
            with_reducible rfl
           rotate_left
           ·simp only [Act.put, List.setIfInBounds_toArray, List.set_cons_zero, List.set_cons_succ, i64_w, i32_w]
            rfl
           refine one_ (i := 3) (N := some 38) #[true, true, true, true, false, false] rfl rfl (by kernel_rfl) (by decide) (fun K hK => ?_)
           refine goes_ Tryd.func67 (by kernel_rfl) rfl #[.string (t112.extract 4 ((ji17) : Int).toNat)] (by rfl) rfl rfl (by (try simp only [List.map_toArray, List.map_cons, List.map_nil]); first | done | (simp only [hji17]; rfl) | rfl | (simp only [List.length_drop, List.length_take]; rfl)) ?_
           with_reducible refine (sum_Of.calls (t112.extract 4 ((ji17) : Int).toNat) t114 _ A14.out).mono ?_
           rintro e w22 ⟨rfl, hb⟩
           refine ⟨_, rfl, ?_⟩
           have n0_ := Aside0.mk (below_step (by repeat (first | (with_reducible first | exact HB.out | apply below_alloc | apply pw_below_drewN | apply below_drew1) | exact HB.out)) hb)
           clear HB
           have HB := n0_
           clear n0_
           (try clear hb)
           (try clear hb2)
           (try clear hk)
           (try clear hi)
           refine hK.out _ _ trivial (fun hHeld => ?_)
           clear hK K
           refine norm_ (a' := ?_) ?_ ?_
           rotate_left
           ·show Act.put _ (some 38) _ = _
            simp only [Act.put, List.setIfInBounds_toArray, List.set_cons_zero, List.set_cons_succ, i64_w, i32_w]
            rfl
           refine one_ (i := 4) (N := some 39) #[true, true, true, true, true, false] rfl rfl (by kernel_rfl) (by decide) (fun K hK => ?_)
           refine goes_ Tryd.func66 (by kernel_rfl) rfl #[.int .u32 t114] (by rfl) rfl rfl (by (try simp only [List.map_toArray, List.map_cons, List.map_nil]); first | done | rfl | (simp only [List.length_drop, List.length_take]; rfl)) ?_
           with_reducible refine (sum_bytes.calls t114 t115 _ A15.out).mono ?_
           rintro e w23 ⟨rfl, hb⟩
           refine ⟨_, rfl, ?_⟩
           have n0_ := Aside0.mk (below_step (by repeat (first | (with_reducible first | exact HB.out | apply below_alloc | apply pw_below_drewN | apply below_drew1) | exact HB.out)) hb)
           clear HB
           have HB := n0_
           clear n0_
           (try clear hb)
           (try clear hb2)
           (try clear hk)
           (try clear hi)
           refine hK.out _ _ trivial (fun hHeld => ?_)
           clear hK K
           refine norm_ (a' := ?_) ?_ ?_
           rotate_left
           ·show Act.put _ (some 39) _ = _
            simp only [Act.put, List.setIfInBounds_toArray, List.set_cons_zero, List.set_cons_succ, i64_w, i32_w]
            rfl
           refine pure_ (i := 5) (N := some 40) (v := ?_) (a' := ?_) #[true, true, true, true, true, true] rfl rfl (by kernel_rfl) (fun _ _ _ h => h) (Or.inl ⟨by rfl, ?_⟩) ?_ ?_
           rotate_left
           ·intro w'
            go_simp
            with_reducible rfl
           rotate_left
           ·simp only [Act.put, List.setIfInBounds_toArray, List.set_cons_zero, List.set_cons_succ, i64_w, i32_w]
            rfl
           refine done_ (by kernel_rfl) ?_
           try go_wp2
           have n0_ := Aside0.mk (below_drew1 HB.out)
           clear HB
           have HB := n0_
           clear n0_
           refine start_ (n := 8) (S := fun w' => True) (ds := []) #[false, false, false, false, false, false, false, false] (by kernel_rfl) rfl rfl trivial (fun hHeld => ?_); refine with_tabW sum_Next.tab13 sum_Next.bits13 (fun HT_ HW_ => ?_)
           generalize w23.drew = w24 at HB hHeld ⊢
           refine pure_ (i := 0) (N := some 41) (v := ?_) (a' := ?_) #[true, false, false, false, false, false, false, false] rfl rfl (any_of HT_.out (by kernel_rfl)) (fun _ _ _ h => h) (Or.inl ⟨by rfl, ?_⟩) ?_ ?_
           rotate_left
           ·intro w'
            go_simp
            with_reducible rfl
           rotate_left
           ·simp only [Act.put, List.setIfInBounds_toArray, List.set_cons_zero, List.set_cons_succ, i64_w, i32_w]
            rfl
           refine pure_ (i := 1) (N := some 42) (v := ?_) (a' := ?_) #[true, true, false, false, false, false, false, false] rfl rfl (any_of HT_.out (by kernel_rfl)) (fun _ _ _ h => h) (Or.inl ⟨by rfl, ?_⟩) ?_ ?_
           rotate_left
           ·intro w'
            go_simp
            with_reducible rfl
           rotate_left
           ·simp only [Act.put, List.setIfInBounds_toArray, List.set_cons_zero, List.set_cons_succ, i64_w, i32_w]
            rfl
           refine pure_ (i := 2) (N := some 43) (v := ?_) (a' := ?_) #[true, true, true, false, false, false, false, false] rfl rfl (any_of HT_.out (by kernel_rfl)) (fun _ _ _ h => h) (Or.inl ⟨by rfl, ?_⟩) ?_ ?_
           rotate_left
           ·intro w'
            go_simp
            with_reducible rfl
           rotate_left
           ·simp only [Act.put, List.setIfInBounds_toArray, List.set_cons_zero, List.set_cons_succ, i64_w, i32_w]
            rfl
           refine pure_ (i := 3) (N := some 44) (v := ?_) (a' := ?_) #[true, true, true, true, false, false, false, false] rfl rfl (any_of HT_.out (by kernel_rfl)) (fun _ _ _ h => h) (Or.inl ⟨by rfl, ?_⟩) ?_ ?_
           rotate_left
           ·intro w'
            go_simp
            with_reducible rfl
           rotate_left
           ·simp only [Act.put, List.setIfInBounds_toArray, List.set_cons_zero, List.set_cons_succ, i64_w, i32_w]
            rfl
           refine pure_ (i := 4) (N := some 45) (v := ?_) (a' := ?_) #[true, true, true, true, true, false, false, false] rfl rfl (any_of HT_.out (by kernel_rfl)) (fun _ _ _ h => h) (Or.inl ⟨by rfl, ?_⟩) ?_ ?_
           rotate_left
           ·intro w'
            go_simp
            with_reducible rfl
           rotate_left
           ·simp only [Act.put, List.setIfInBounds_toArray, List.set_cons_zero, List.set_cons_succ, i64_w, i32_w]
            rfl
           refine pure_ (i := 5) (N := some 2) (v := ?_) (a' := ?_) #[true, true, true, true, true, true, false, false] rfl rfl (any_of HT_.out (by kernel_rfl)) (fun _ _ _ h => h) (Or.inl ⟨by rfl, ?_⟩) ?_ ?_
           rotate_left
           ·intro w'
            go_simp
            with_reducible rfl
           rotate_left
           ·simp only [Act.put, List.setIfInBounds_toArray, List.set_cons_zero, List.set_cons_succ, i64_w, i32_w]
            rfl
           refine pure_ (i := 6) (N := some 3) (v := ?_) (a' := ?_) #[true, true, true, true, true, true, true, false] rfl rfl (any_of HT_.out (by kernel_rfl)) (fun _ _ _ h => h) (Or.inl ⟨by rfl, ?_⟩) ?_ ?_
           rotate_left
           ·intro w'
            go_simp
            with_reducible rfl
           rotate_left
           ·simp only [Act.put, List.setIfInBounds_toArray, List.set_cons_zero, List.set_cons_succ, i64_w, i32_w]
            rfl
           refine pure_ (i := 7) (N := some 4) (v := ?_) (a' := ?_) #[true, true, true, true, true, true, true, true] rfl rfl (any_of HT_.out (by kernel_rfl)) (fun _ _ _ h => h) (Or.inl ⟨by rfl, ?_⟩) ?_ ?_
           rotate_left
           ·intro w'
            go_simp
            with_reducible rfl
           rotate_left
           ·simp only [Act.put, List.setIfInBounds_toArray, List.set_cons_zero, List.set_cons_succ, i64_w, i32_w]
            rfl
           refine done_ (done_of HT_.out (by kernel_rfl)) ?_
           try go_wp2
           go_ret3
           exact ⟨by first | rfl | (simp [errW_none, errW_some] <;> rfl) | (simp only [← hji17]; first | rfl | (simp [errW_none, errW_some] <;> rfl)) | (simp [*, errW_none, errW_some] <;> rfl), by repeat (first | (with_reducible first | exact HB.out | apply below_alloc | apply pw_below_drewN | apply below_drew1) | exact HB.out)⟩
          ·rw [if_neg c18] at H
           exact absurd H (by simp)
         ·rw [if_neg c16] at H
          have c16b0 : ((t112.extract 0 4).toList == t115.toList) = false := beq_eq_false_iff_ne.mpr c16
          have c16b1 : ((t112.extract 0 4).toList != t115.toList) = true := bne_iff_ne.mpr c16
          simp only [Option.some.injEq, Prod.mk.injEq] at H
          obtain ⟨rfl, rfl, rfl⟩ := H
          go_enter Tryd.func55, Tryd.ntmps55
          try go_wp2_with (first | ((with_reducible refine gate_callee (f := 31) rfl ?_); refine goesL_ (some 11) rfl rfl Tryd.func31 (by kernel_rfl) rfl #[.string a0] rfl (by (try simp only [List.map_toArray, List.map_cons, List.map_nil]); first | done | rfl | (simp only [List.length_drop, List.length_take]; rfl)) ?_; (with_reducible refine (wire_GetNum.calls a0 t111 t112 t113 _ A2.out).mono ?_); rintro e w25 ⟨rfl, hb⟩; refine ⟨_, rfl, ?_⟩; have n0_ := Aside0.mk (below_step (by repeat (first | (with_reducible first | exact HB.out | apply below_alloc | apply pw_below_drewN | apply below_drew1) | exact HB.out)) hb); clear HB; have HB := n0_; clear n0_; (try clear hb); (try clear hb2); (try clear hk); (try clear hi)))
          have n0_ := Aside0.mk (below_drew1 HB.out)
          clear HB
          have HB := n0_
          clear n0_
          refine start_ (n := 6) (S := fun w' => True) (ds := []) #[false, false, false, false, false, false] (by kernel_rfl) rfl rfl trivial (fun hHeld => ?_)
          generalize w25.drew = w26 at HB hHeld ⊢
          refine pure_ (i := 0) (N := some 35) (v := ?_) (a' := ?_) #[true, false, false, false, false, false] rfl rfl (by kernel_rfl) (fun _ _ _ h => h) (Or.inl ⟨by rfl, ?_⟩) ?_ ?_
          rotate_left
          ·intro w'
           go_simp
           with_reducible rfl
          rotate_left
          ·simp only [Act.put, List.setIfInBounds_toArray, List.set_cons_zero, List.set_cons_succ, i64_w, i32_w]
           rfl
          refine pure_ (i := 1) (N := some 36) (v := ?_) (a' := ?_) #[true, true, false, false, false, false] rfl rfl (by kernel_rfl) (fun _ _ _ h => h) (Or.inl ⟨by rfl, ?_⟩) ?_ ?_
          rotate_left
          ·intro w'
           go_simp
           with_reducible rfl
          rotate_left
          ·simp only [Act.put, List.setIfInBounds_toArray, List.set_cons_zero, List.set_cons_succ, i64_w, i32_w]
           rfl
          refine pure_ (i := 2) (N := some 37) (v := ?_) (a' := ?_) #[true, true, true, false, false, false] rfl rfl (by kernel_rfl) (fun _ _ _ h => h) (Or.inl ⟨by rfl, ?_⟩) ?_ ?_
          rotate_left
          ·intro w'
           go_simp
           with_reducible rfl
          rotate_left
          ·simp only [Act.put, List.setIfInBounds_toArray, List.set_cons_zero, List.set_cons_succ, i64_w, i32_w]
           rfl
          refine one_ (i := 3) (N := some 38) #[true, true, true, true, false, false] rfl rfl (by kernel_rfl) (by decide) (fun K hK => ?_)
          refine goes_ Tryd.func67 (by kernel_rfl) rfl #[.string (t112.extract 4 ((wrap64 (4 + t111)) : Int).toNat)] (by rfl) rfl rfl (by (try simp only [List.map_toArray, List.map_cons, List.map_nil]); first | done | rfl | (simp only [List.length_drop, List.length_take]; rfl)) ?_
          with_reducible refine (sum_Of.calls (t112.extract 4 ((wrap64 (4 + t111)) : Int).toNat) t114 _ A14.out).mono ?_
          rintro e w27 ⟨rfl, hb⟩
          refine ⟨_, rfl, ?_⟩
          have n0_ := Aside0.mk (below_step (by repeat (first | (with_reducible first | exact HB.out | apply below_alloc | apply pw_below_drewN | apply below_drew1) | exact HB.out)) hb)
          clear HB
          have HB := n0_
          clear n0_
          (try clear hb)
          (try clear hb2)
          (try clear hk)
          (try clear hi)
          refine hK.out _ _ trivial (fun hHeld => ?_)
          clear hK K
          refine norm_ (a' := ?_) ?_ ?_
          rotate_left
          ·show Act.put _ (some 38) _ = _
           simp only [Act.put, List.setIfInBounds_toArray, List.set_cons_zero, List.set_cons_succ, i64_w, i32_w]
           rfl
          refine one_ (i := 4) (N := some 39) #[true, true, true, true, true, false] rfl rfl (by kernel_rfl) (by decide) (fun K hK => ?_)
          refine goes_ Tryd.func66 (by kernel_rfl) rfl #[.int .u32 t114] (by rfl) rfl rfl (by (try simp only [List.map_toArray, List.map_cons, List.map_nil]); first | done | rfl | (simp only [List.length_drop, List.length_take]; rfl)) ?_
          with_reducible refine (sum_bytes.calls t114 t115 _ A15.out).mono ?_
          rintro e w28 ⟨rfl, hb⟩
          refine ⟨_, rfl, ?_⟩
          have n0_ := Aside0.mk (below_step (by repeat (first | (with_reducible first | exact HB.out | apply below_alloc | apply pw_below_drewN | apply below_drew1) | exact HB.out)) hb)
          clear HB
          have HB := n0_
          clear n0_
          (try clear hb)
          (try clear hb2)
          (try clear hk)
          (try clear hi)
          refine hK.out _ _ trivial (fun hHeld => ?_)
          clear hK K
          refine norm_ (a' := ?_) ?_ ?_
          rotate_left
          ·show Act.put _ (some 39) _ = _
           simp only [Act.put, List.setIfInBounds_toArray, List.set_cons_zero, List.set_cons_succ, i64_w, i32_w]
           rfl
          refine pure_ (i := 5) (N := some 40) (v := ?_) (a' := ?_) #[true, true, true, true, true, true] rfl rfl (by kernel_rfl) (fun _ _ _ h => h) (Or.inl ⟨by rfl, ?_⟩) ?_ ?_
          rotate_left
          ·intro w'
           go_simp
           with_reducible rfl
          rotate_left
          ·simp only [Act.put, List.setIfInBounds_toArray, List.set_cons_zero, List.set_cons_succ, i64_w, i32_w]
           rfl
          refine done_ (by kernel_rfl) ?_
          try go_wp2
          go_ret3
          exact ⟨by first | rfl | (simp [errW_none, errW_some] <;> rfl) | (simp [*, errW_none, errW_some] <;> rfl), by repeat (first | (with_reducible first | exact HB.out | apply below_alloc | apply pw_below_drewN | apply below_drew1) | exact HB.out)⟩
        ·rw [if_neg c13] at H
         exact absurd H (by simp)
       ·rw [if_neg c12] at H
        exact absurd H (by simp)
      ·rw [if_neg c11] at H
       exact absurd H (by simp)
     ·rw [if_neg c10] at H
      exact absurd H (by simp)
 ·rw [if_neg c3] at H
  have c3b0 : (t113 == 0) = false := beq_eq_false_iff_ne.mpr c3
  have c3b1 : (t113 != 0) = true := bne_iff_ne.mpr c3
  simp only [Option.some.injEq, Prod.mk.injEq] at H
  obtain ⟨rfl, rfl, rfl⟩ := H
  go_enter Tryd.func55, Tryd.ntmps55
  go_wp2_with (first | ((with_reducible refine gate_callee (f := 31) rfl ?_); refine goesL_ (some 11) rfl rfl Tryd.func31 (by kernel_rfl) rfl #[.string a0] rfl (by (try simp only [List.map_toArray, List.map_cons, List.map_nil]); first | done | rfl | (simp only [List.length_drop, List.length_take]; rfl)) ?_; (with_reducible refine (wire_GetNum.calls a0 t111 t112 t113 _ A2.out).mono ?_); rintro e w29 ⟨rfl, hb⟩; refine ⟨_, rfl, ?_⟩; have n0_ := Aside0.mk (below_step (by repeat (first | (with_reducible first | exact HB.out | apply below_alloc | apply pw_below_drewN | apply below_drew1) | exact HB.out)) hb); clear HB; have HB := n0_; clear n0_; (try clear hb); (try clear hb2); (try clear hk); (try clear hi)))
  go_ret3
  exact ⟨by first | rfl | (simp [errW_none, errW_some] <;> rfl) | (simp [*, errW_none, errW_some] <;> rfl), by repeat (first | (with_reducible first | exact HB.out | apply below_alloc | apply pw_below_drewN | apply below_drew1) | exact HB.out)⟩
def block_Check.f (l0_0 : List ByteArray) (l0_1 : List (S60)) (a0_2 : Int) (a0_3 : Bool) : Option (Int) := some (dv_check ⟨l0_0, l0_1, a0_2, a0_3⟩)
set_option maxHeartbeats 400000 in
set_option maxRecDepth 100000 in
theorem block_Check1 (x : ByteArray) (W : World) : Calls Tryd.prog 49 #[.string x] W fun e w' => e = .returned (.bool (!(x.size == 64))) ∧ w' = W := by
 have hc : ((x.size : Int) != 64) = !(x.size == 64) := by
  rw [Bool.eq_iff_iff]; simp; omega
 go_enter Tryd.func49, Tryd.ntmps49
 go_wp2
 go_ret
 exact ⟨by first | rfl | simp_all | (simp; omega), rfl⟩
set_option maxHeartbeats 800000 in
set_option maxRecDepth 100000 in
theorem block_Check2 (x : S60) (g n : Nat) (A : Option Addr) (c : Nat) (W : World) (h0 : W.cell? ⟨g, 0, none⟩ = some (.slice A n c)) : Calls Tryd.prog 51 #[.agg #[.int .i64 x.f0, .string x.f1], .pointer (some ⟨g, 0, none⟩)] W fun e w' => e = .returned (.bool (!dv_okw n x)) ∧ Below W.heap.size W w' := by
 have hb := (Below.refl W.heap.size W)
 have hne : W.heap.size ≠ g := World.new_ne W ⟨g, 0, none⟩ h0
 have hne2 := hne.symm
 have hu := Tryd.underlying60
 have e1 : (W.alloc (.cells #[.int .i64 x.f0, .string x.f1] 60)).cell? ⟨g, 0, none⟩ = some (.slice A n c) := (World.cell?_alloc_lt _ _ _ (World.block_lt_of_cell? W ⟨g, 0, none⟩ h0)).trans h0
 obtain ⟨f0, f1⟩ := x
 unfold dv_okw
 by_cases c1 : 0 ≤ f0
 ·by_cases c2 : f0 < (n : Int)
  ·by_cases c3 : f1.size = 64
   ·have q1 : ¬ f0 < 0 := by omega
    have q2 : ¬ (n : Int) ≤ f0 := by omega
    have q3 : ((f1.size : Int) = 64) = True := eq_true (by omega)
    have q4 : ((f1.size : Int) == 64) = true := beq_iff_eq.mpr (by omega)
    have q5 : ((f1.size : Int) != 64) = false := by rw [bne, q4]; rfl
    go_enter Tryd.func51, Tryd.ntmps51
    go_wp2
    all_goals (go_ret; exact ⟨by first | rfl | (simp_all; done) | (simp_all; omega), hb.alloc hb.size _⟩)
   ·have q1 : ¬ f0 < 0 := by omega
    have q2 : ¬ (n : Int) ≤ f0 := by omega
    have q3 : ((f1.size : Int) = 64) = False := eq_false (by omega)
    have q4 : ((f1.size : Int) == 64) = false := beq_eq_false_iff_ne.mpr (by omega)
    have q5 : ((f1.size : Int) != 64) = true := by rw [bne, q4]; rfl
    go_enter Tryd.func51, Tryd.ntmps51
    go_wp2
    all_goals (go_ret; exact ⟨by first | rfl | (simp_all; done) | (simp_all; omega), hb.alloc hb.size _⟩)
  ·have q1 : ¬ f0 < 0 := by omega
   have q2 : (n : Int) ≤ f0 := by omega
   go_enter Tryd.func51, Tryd.ntmps51
   go_wp2
   all_goals (go_ret; exact ⟨by first | rfl | (simp_all; done) | (simp_all; omega), hb.alloc hb.size _⟩)
 ·have q1 : f0 < 0 := by omega
  go_enter Tryd.func51, Tryd.ntmps51
  go_wp2
  all_goals (go_ret; exact ⟨by first | rfl | (simp_all; done) | (simp_all; omega), hb.alloc hb.size _⟩)
set_option maxHeartbeats 2000000 in
set_option maxRecDepth 100000 in
theorem block_Check.calls (A0_0 : Option Addr) (c0_0 : Nat) (l0_0 : List ByteArray) (A0_1 : Option Addr) (c0_1 : Nat) (l0_1 : List (S60)) (a0_2 : Int) (a0_3 : Bool) (r : Int) (w : World) (hr0_0 : Kd.C Kd.string w A0_0 l0_0.length l0_0) (hc0_0 : l0_0.length ≤ c0_0) (hr0_1 : Kd.C k60 w A0_1 l0_1.length l0_1) (hc0_1 : l0_1.length ≤ c0_1) (h : block_Check.f l0_0 l0_1 a0_2 a0_3 = some r) :
  Calls Tryd.prog 29 #[.agg #[.slice A0_0 l0_0.length c0_0, .slice A0_1 l0_1.length c0_1, .int .i64 a0_2, .bool a0_3]] w fun e w' => e = .returned (.int .i64 r) ∧ Below w.heap.size w w' := by
 obtain rfl := Option.some.inj h
 clear h
 have hu := Tryd.underlying25
 have hmf : ∀ (fn : Fn) (first cap : Array Value) (w : World), (Instr.makeFunc fn first cap).run Tryd.prog w = .ok (.func fn first cap) w := fun _ _ _ _ => rfl
 have hb := below_alloc (Below.refl w.heap.size w) (.cells #[.slice A0_0 l0_0.length c0_0, .slice A0_1 l0_1.length c0_1, .int .i64 a0_2, .bool a0_3] 25)
 have HB := Lib.hid hb
 haveI : Inhabited ByteArray := ⟨ByteArray.empty⟩
 haveI : Inhabited S60 := ⟨z60⟩
 have e1 : ∀ args w, (callFunc 49 args).run Tryd.prog w = .ok (.enter 49 args) w := enters_of Tryd.func49 (by kernel_rfl) rfl
 have e2 : ∀ args w, (callFunc 51 args).run Tryd.prog w = .ok (.enter 51 args) w := enters_of Tryd.func51 (by kernel_rfl) rfl
 have HC1 := Lib.hid (gi_contains_e (d := Kd.string) (enc := fun x : ByteArray => .string x) Tryd.lay_hass rfl (fun h => h) (fun s => !(s.size == 64)) 49 #[] e1 A0_0 c0_0 l0_0 (w.alloc (.cells #[.slice A0_0 l0_0.length c0_0, .slice A0_1 l0_1.length c0_1, .int .i64 a0_2, .bool a0_3] 25)) (Kd.C_below hr0_0 hb) (fun W x _ => (block_Check1 x W).mono (fun e w' ⟨he, hw⟩ => ⟨he, 0, hw⟩)))
 have HC2 := Lib.hid (fun (W : World) (hbW : Below (w.alloc (.cells #[.slice A0_0 l0_0.length c0_0, .slice A0_1 l0_1.length c0_1, .int .i64 a0_2, .bool a0_3] 25)).heap.size (w.alloc (.cells #[.slice A0_0 l0_0.length c0_0, .slice A0_1 l0_1.length c0_1, .int .i64 a0_2, .bool a0_3] 25)) W) =>
  gi_contains (d := k60) (enc := wt_enc) Tryd.lay_hasw Tryd.isAgg60 Tryd.sizeOf60 (fun _ => rfl) (fun h => k60_open h) (by decide) (fun x => !dv_okw l0_0.length x) 51 #[.pointer (some ⟨w.heap.size, 0, none⟩)] e2 A0_1 c0_1 l0_1 W (Kd.C_below hr0_1 (hb.trans (hbW.mono hb.size)))
   (fun W' x hb' => (block_Check2 x w.heap.size l0_0.length A0_0 c0_0 W' (((hbW.trans (hb'.mono hbW.size)).cell (p := ⟨w.heap.size, 0, none⟩) (by simp)).trans (by simp))).mono (fun e w' ⟨he, hw⟩ => ⟨he, below_then hb' hb'.size hw⟩)))
 clear hr0_0 hr0_1 hb
 unfold dv_check dv_ok
 simp only
 by_cases c1 : l0_0.length ≤ 4096
 rotate_left
 ·have q1 : (4096 : Int) < (l0_0.length : Int) := by omega
  rw [decide_eq_false c1, Bool.false_and, if_neg (by decide)]
  go_enter Tryd.func29, Tryd.ntmps29
  go_wp2
  go_ret
  exact ⟨rfl, HB.out⟩
 have q1 : ¬ (4096 : Int) < (l0_0.length : Int) := by omega
 rw [decide_eq_true c1, Bool.true_and]
 clear c1
 by_cases c2 : l0_1.length ≤ 4096
 rotate_left
 ·have q2 : (4096 : Int) < (l0_1.length : Int) := by omega
  rw [decide_eq_false c2, Bool.false_and, if_neg (by decide)]
  go_enter Tryd.func29, Tryd.ntmps29
  go_wp2
  go_ret
  exact ⟨rfl, HB.out⟩
 have q2 : ¬ (4096 : Int) < (l0_1.length : Int) := by omega
 rw [decide_eq_true c2, Bool.true_and]
 clear c2
 by_cases c3 : -1 ≤ a0_2
 rotate_left
 ·have q3 : a0_2 < -1 := by omega
  rw [decide_eq_false c3, Bool.false_and, if_neg (by decide)]
  go_enter Tryd.func29, Tryd.ntmps29
  go_wp2
  go_ret
  exact ⟨rfl, HB.out⟩
 have q3 : ¬ a0_2 < -1 := by omega
 rw [decide_eq_true c3, Bool.true_and]
 clear c3
 have ea : (l0_0.all fun s => s.size == 64) = !(l0_0.any fun s => !(s.size == 64)) := by rw [List.all_eq_not_any_not]
 have eb : (l0_1.all (dv_okw l0_0.length)) = !(l0_1.any fun x => !dv_okw l0_0.length x) := by rw [List.all_eq_not_any_not]
 rw [ea, eb]
 have HC1' := HC1.out
 change Calls Tryd.prog 48 _ _ _ at HC1'
 have HC2' := HC2.out
 change ∀ W, _ → Calls Tryd.prog 50 _ _ _ at HC2'
 clear HC1 HC2
 generalize (l0_0.any fun s => !(s.size == 64)) = r1 at HC1' ⊢
 generalize (l0_1.any fun x => !dv_okw l0_0.length x) = r2 at HC2' ⊢
 have H1 := Lib.hid HC1'
 have H2 := Lib.hid HC2'
 clear HC1' HC2' ea eb
 cases r1 with
 | true =>
  go_enter Tryd.func29, Tryd.ntmps29
  go_wp2_with (go_at_call 48; refine H1.out.mono ?_; rintro e w3 ⟨rfl, hb3⟩; have HB3 := Lib.hid hb3; clear hb3)
  go_ret
  exact ⟨rfl, below_then HB.out HB.out.size HB3.out⟩
 | false =>
  cases r2 with
  | true =>
   go_enter Tryd.func29, Tryd.ntmps29
   go_wp2_with (first | (go_at_call 48; refine H1.out.mono ?_; rintro e w3 ⟨rfl, hb3⟩; have HB3 := Lib.hid hb3; obtain ⟨x0, x1, x2, x3⟩ := blk_cells4 ((hb3.block w.heap.size (by simp)).trans (blk_new _ _)); clear hb3) | (go_at_call 50; refine (H2.out w3 HB3.out).mono ?_; rintro e w4 ⟨rfl, hb4⟩; have HB4 := Lib.hid hb4; clear hb4))
   go_ret
   exact ⟨rfl, below_then (below_then HB.out HB.out.size HB3.out) (below_then HB.out HB.out.size HB3.out).size HB4.out⟩
  | false =>
   go_enter Tryd.func29, Tryd.ntmps29
   go_wp2_with (first | (go_at_call 48; refine H1.out.mono ?_; rintro e w3 ⟨rfl, hb3⟩; have HB3 := Lib.hid hb3; obtain ⟨x0, x1, x2, x3⟩ := blk_cells4 ((hb3.block w.heap.size (by simp)).trans (blk_new _ _)); clear hb3) | (go_at_call 50; refine (H2.out w3 HB3.out).mono ?_; rintro e w4 ⟨rfl, hb4⟩; have HB4 := Lib.hid hb4; clear hb4))
   go_ret
   exact ⟨rfl, below_then (below_then HB.out HB.out.size HB3.out) (below_then HB.out HB.out.size HB3.out).size HB4.out⟩
attribute [local go_sem] Oper.semAt_some
def dv_has (D : Dv) (at_ : Int) : ByteArray := match D.w.reverse.find? (fun x => x.f0 == at_) with | some x => x.f1 | none => D.b.getD at_.toNat ByteArray.empty
def bw_up (l : List S60) (k : Nat) : List (Int × S60) := (List.range k).map fun (j : Nat) => ((l.length : Int) - 1 - (j : Int), l.getD (l.length - 1 - j) z60)
theorem bw_up_succ (l : List S60) (k : Nat) : bw_up l (k + 1) = bw_up l k ++ [((l.length : Int) - 1 - (k : Int), l.getD (l.length - 1 - k) z60)] := by simp [bw_up, List.range_succ]
theorem bw_up_length (l : List S60) (k : Nat) : (bw_up l k).length = k := by simp [bw_up]
theorem bw_up_snd (l : List S60) (k : Nat) (hk : k ≤ l.length) : (bw_up l k).map (·.2) = l.reverse.take k := by
 apply List.ext_getElem
 ·simp [bw_up]; omega
 ·intro i h1 h2
  have hi : i < k := by simpa [bw_up] using h1
  simp [bw_up, List.getElem_reverse, List.getElem?_eq_getElem (show l.length - 1 - i < l.length by omega)]
def bw_encs (x : Int × S60) : Array Value := #[.int .i64 x.1, .agg #[.int .i64 x.2.f0, .string x.2.f1]]
set_option maxRecDepth 100000 in
set_option maxHeartbeats 2000000 in
theorem wait_backward1_in (F : Fence) (n : Nat) (hF : F.fn 75) (hro : F.round = none) (hn : 1 ≤ n) (lp Bs n₀ : Nat) (A : Option Addr) (c : Nat) (l : List S60) (J Jx : List (Int × S60) → World → Prop)
  (hY : ∀ pre x W, J pre W → pre.length < l.length → YieldAt F (n - 1) Tryd.prog lp (bw_encs x) W fun e W' =>
   (e = .returned (.bool true) ∧ J (pre ++ [x]) W' ∧ Below n₀ W W') ∨ (e = .returned (.bool false) ∧ Jx (pre ++ [x]) W'))
  (W : World) (hn₀ : n₀ ≤ W.heap.size) (hBn : Bs < n₀) (hBs : W.cell? ⟨Bs, 0, none⟩ = some (.slice A l.length c)) (hC : Kd.C k60 W A l.length l) (hA : ∀ ad, A = some ad → 0 < l.length → ad.block < n₀) (h0 : J [] W) :
  CallsIn F n Tryd.prog 75 #[.func (.yield lp) #[] #[], .pointer (some ⟨Bs, 0, none⟩)] W fun e W' => (∃ v, e = .returned v) ∧
   ((∃ ys, ys = bw_up l l.length ∧ J ys W') ∨ (∃ pre, (∃ k, k ≤ l.length ∧ pre = bw_up l k) ∧ Jx pre W')) := by
 have hu := Tryd.underlying60
 have hmax := hC.2.1
 have HC := Lib.hid hC
 have HA := Lib.hid hA
 have HY := Lib.hid hY
 clear hC hA hY
 refine callsIn_of_wp Tryd.func75 rfl hF ?_ hro
 simp only [Tryd.ntmps75, List.size_toArray, List.length_cons, List.length_nil, Nat.reduceAdd, Nat.reduceSub, Array.replicate_succ, Array.replicate_zero, List.push_toArray, List.append_toArray, List.nil_append, List.cons_append]
 gi_wp2
 gi_loopw [3] (fun i wr => ∃ k : Nat, k ≤ l.length ∧ i = .int .i64 ((l.length : Int) - 1 - (k : Int)) ∧ Hid (J (bw_up l k) wr) ∧ Hid (Below n₀ W wr) ∧ wr.cell? ⟨Bs, 0, none⟩ = some (.slice A l.length c))
  (fun i _ => (intOf i + 1).toNat)
 case atStart => exact ⟨0, Nat.zero_le _, by first | rfl | (simp; done) | go_num, Lib.hid h0, Lib.hid (Below.refl _ _), hBs⟩
 case round =>
  clear h0 hBs
  obtain ⟨k, hk, rfl, hJs, hnx, hbs⟩ := hrel
  by_cases hlt : k < l.length
  ·have q0 : (0 : Int) ≤ (l.length : Int) - 1 - (k : Int) := by omega
   have q1 : ((l.length : Int) - 1 - (k : Int)) < (l.length : Int) := by omega
   obtain ⟨ad, e0, hx0, hx1⟩ := at_T60 HC.out ((l.length : Int) - 1 - (k : Int)) q0 q1
   cases e0
   have hab := HA.out ad rfl (by omega)
   replace hx0 := (hnx.out.cell (p := ad.add (((l.length : Int) - 1 - (k : Int)).toNat * 2)) (by rw [show (ad.add (((l.length : Int) - 1 - (k : Int)).toNat * 2)).block = ad.block from by unfold Addr.add; split <;> rfl]; exact hab)).trans hx0
   replace hx1 := (hnx.out.cell (p := ⟨(ad.add (((l.length : Int) - 1 - (k : Int)).toNat * 2)).block, (ad.add (((l.length : Int) - 1 - (k : Int)).toNat * 2)).off + 1, none⟩) (by show (ad.add _).block < n₀; rw [show (ad.add (((l.length : Int) - 1 - (k : Int)).toNat * 2)).block = ad.block from by unfold Addr.add; split <;> rfl]; exact hab)).trans hx1
   have hrd : rd_T60 l ((l.length : Int) - 1 - (k : Int)) = l.getD (l.length - 1 - k) z60 := by
    unfold rd_T60
    rw [show ((l.length : Int) - 1 - (k : Int)).toNat = l.length - 1 - k from by omega]
   rw [hrd] at hx0 hx1
   obtain ⟨i, hi⟩ : ∃ i : Int, i = (l.length : Int) - 1 - (k : Int) := ⟨_, rfl⟩
   have hsuc := bw_up_succ l k
   rw [← hi] at hx0 hx1 q0 q1 hsuc ⊢
   obtain ⟨x, hx⟩ : ∃ x, x = l.getD (l.length - 1 - k) z60 := ⟨_, rfl⟩
   rw [← hx] at hx0 hx1 hsuc
   obtain ⟨fn, tmps, assign, body, hy, hR⟩ := HY.out _ (i, x) wr hJs.out (by rw [bw_up_length]; exact hlt)
   unfold bw_encs at hy
   dsimp only at hy
   have HS := Lib.hid hsuc
   have HI := Lib.hid hi
   have d0 : decide (0 ≤ i) = true := decide_eq_true q0
   clear hsuc hi hx hrd
   gi_wp2
   refine hR.mono ?_
   rintro e W3 (⟨rfl, hJ3, hk3⟩ | ⟨rfl, hJx3⟩)
   ·have HJ3 := Lib.hid hJ3
    have HK3 := Lib.hid hk3
    have hb3 := (hk3.cell (p := ⟨Bs, 0, none⟩) hBn).trans hbs
    clear hJ3 hk3 hbs
    gi_wp2
    have hi := HI.out
    go_roundw
    case rel => exact ⟨k + 1, by omega, by rw [show i - 1 = (l.length : Int) - 1 - ((k + 1 : Nat) : Int) from by omega], Lib.hid (by rw [HS.out]; exact HJ3.out), Lib.hid (hnx.out.trans HK3.out), hb3⟩
    case measure => simp only [intOf]; omega
   ·have HJ3 := Lib.hid hJx3
    clear hJx3
    gi_wp2
    refine bodyPost_ret (results_none rfl _ _ _) rfl ?_
    exact ⟨⟨_, rfl⟩, .inr ⟨_, ⟨k + 1, by omega, HS.out.symm⟩, HJ3.out⟩⟩
  ·obtain rfl : k = l.length := by omega
   have q0 : ¬ (0 : Int) ≤ (l.length : Int) - 1 - (l.length : Int) := by omega
   have d0 : decide (0 ≤ (l.length : Int) - 1 - (l.length : Int)) = false := decide_eq_false q0
   gi_wp2
   go_end0
   exact ⟨⟨_, rfl⟩, by first | exact .inl ⟨_, rfl, hJs.out⟩ | exact .inl hJs.out⟩
set_option maxHeartbeats 400000 in
set_option maxRecDepth 100000 in
theorem wait_backward (A : Option Addr) (n c : Nat) (w : World) :
  Calls Tryd.prog 57 #[.slice A n c] w fun e w' => e = .returned (.func (.func 75) #[] #[.pointer (some ⟨w.heap.size, 0, none⟩)]) ∧ w' = w.alloc (.cells #[.slice A n c] 23) := by
 have hmf : ∀ (fn : Fn) (first cap : Array Value) (w : World), (Instr.makeFunc fn first cap).run Tryd.prog w = .ok (.func fn first cap) w := fun _ _ _ _ => rfl
 go_enter Tryd.func57, Tryd.ntmps57
 go_wp2
 go_ret
 exact ⟨rfl, rfl⟩
theorem find_none_all {l : List S60} {a : Int} (h : ∀ x ∈ l, x.f0 ≠ a) : l.reverse.find? (fun x => x.f0 == a) = none := by
 rw [List.find?_eq_none]
 intro x hx
 have := h x (List.mem_reverse.1 hx)
 simpa using this
theorem find_first {l : List S60} {a : Int} {k : Nat} (hk : k < l.length) (h : ∀ x ∈ l.reverse.take k, x.f0 ≠ a) (hx : (l.getD (l.length - 1 - k) z60).f0 = a) : l.reverse.find? (fun x => x.f0 == a) = some (l.getD (l.length - 1 - k) z60) := by
 have e : l.reverse = l.reverse.take k ++ l.getD (l.length - 1 - k) z60 :: l.reverse.drop (k + 1) := by
  have h1 : k < l.reverse.length := by simpa using hk
  have h2 : l.reverse[k] = l.getD (l.length - 1 - k) z60 := by
   rw [List.getElem_reverse, List.getD_eq_getElem?_getD, List.getElem?_eq_getElem (by omega)]; rfl
  rw [← h2, ← List.drop_eq_getElem_cons h1, List.take_append_drop]
 rw [e, List.find?_append]
 have h3 : (l.reverse.take k).find? (fun x => x.f0 == a) = none := by
  rw [List.find?_eq_none]
  intro x hx2
  have := h x hx2
  simpa using this
 rw [h3, Option.none_or, List.find?_cons_of_pos (by simpa using hx)]
set_option maxRecDepth 100000 in
set_option maxHeartbeats 2000000 in
theorem dev_has (g : Nat) (D : Dv) (at_ : Int) (w : World) (hD : DR w g D) (h0 : 0 ≤ at_) (h1 : at_ < (D.b.length : Int)) :
  Calls Tryd.prog 40 #[.pointer (some ⟨g, 0, none⟩), .int .i64 at_] w fun e w' => e = .returned (.string (dv_has D at_)) ∧ Below w.heap.size w w' := by
 have hu := Tryd.underlying56
 have hu2 := Tryd.underlying25
 have hgw := hD.lt
 obtain ⟨A1, c1, A2, c2, hrow, hl1, hl2, hC1, hC2⟩ := hD
 obtain ⟨g0, g1, g2, g3⟩ := blk_cells4 hrow
 have n1 : g ≠ w.heap.size := by omega
 have n2 : g ≠ w.heap.size + 1 := by omega
 have HC1 := Lib.hid hC1
 have HC2 := Lib.hid hC2
 have HROW := Lib.hid hrow
 have hA2 : ∀ ad, A2 = some ad → 0 < D.w.length → ad.block < w.heap.size := by
  intro ad e hp
  subst e
  obtain ⟨ad', e1, hx0, _⟩ := at_T60 hC2 0 (Int.le_refl _) (by omega)
  cases e1
  have := World.block_lt_of_cell? w _ hx0
  rwa [show (ad.add ((0 : Int).toNat * 2)).block = ad.block from by unfold Addr.add; split <;> rfl] at this
 have HA2 := Lib.hid hA2
 clear hC1 hC2 hrow hA2
 obtain ⟨r, hr⟩ : ∃ r, r = dv_has D at_ := ⟨_, rfl⟩
 rw [← hr]
 have HR := Lib.hid hr
 clear hr
 refine (callsIn_wide (n := 3)).1 (callsIn_of_wp_marks Tryd.func40 rfl trivial ?_)
 simp only [Tryd.ntmps40, List.size_toArray, List.length_cons, List.length_nil, Nat.reduceAdd, Nat.reduceSub, Array.replicate_succ, Array.replicate_zero, List.push_toArray, List.append_toArray, List.nil_append, List.cons_append]
 gi_wp2_with (first | (refine ⟨trivial, ?_⟩; gi_at_call 57; refine ((callsIn_wide (n := 2)).2 (wait_backward _ _ _ _)).mono ?_; rintro e w5 ⟨rfl, rfl⟩))
 have eg : ∀ args w, (callFunc 75 args).run Tryd.prog w = .ok (.enter 75 args) w := enters_of Tryd.func75 (by kernel_rfl) rfl
 have hz0 : (((w.alloc (.cells #[.int .i64 at_] 3)).alloc (.cells #[.string ⟨#[]⟩] 9)).alloc (.cells #[.slice A2 D.w.length c2] 23)).heap.size = w.heap.size + 3 := by simp
 have hb0 : Below w.heap.size w (((w.alloc (.cells #[.int .i64 at_] 3)).alloc (.cells #[.string ⟨#[]⟩] 9)).alloc (.cells #[.slice A2 D.w.length c2] 23)) := below_alloc (below_alloc (below_alloc (Below.refl _ _) _) _) _
 have k3 : (((w.alloc (.cells #[.int .i64 at_] 3)).alloc (.cells #[.string ⟨#[]⟩] 9)).alloc (.cells #[.slice A2 D.w.length c2] 23)).heap[w.heap.size]? = some (.cells #[.int .i64 at_] 3 (0, 0)) := blk_alloc (blk_alloc (blk_new _ _) _) _
 have k4 : (((w.alloc (.cells #[.int .i64 at_] 3)).alloc (.cells #[.string ⟨#[]⟩] 9)).alloc (.cells #[.slice A2 D.w.length c2] 23)).heap[w.heap.size + 1]? = some (.cells #[.string ⟨#[]⟩] 9 (0, 0)) := blk_alloc (by have := blk_new (w.alloc (.cells #[.int .i64 at_] 3)) (.cells #[.string ⟨#[]⟩] 9); rwa [World.size_alloc] at this) _
 have k5 : (((w.alloc (.cells #[.int .i64 at_] 3)).alloc (.cells #[.string ⟨#[]⟩] 9)).alloc (.cells #[.slice A2 D.w.length c2] 23)).heap[w.heap.size + 1 + 1]? = some (.cells #[.slice A2 D.w.length c2] 23 (0, 0)) := by have := blk_new ((w.alloc (.cells #[.int .i64 at_] 3)).alloc (.cells #[.string ⟨#[]⟩] 9)) (.cells #[.slice A2 D.w.length c2] 23); simpa only [World.size_alloc] using this
 generalize (((w.alloc (.cells #[.int .i64 at_] 3)).alloc (.cells #[.string ⟨#[]⟩] 9)).alloc (.cells #[.slice A2 D.w.length c2] 23)) = W0 at hz0 hb0 k3 k4 k5 ⊢
 obtain ⟨s, hs⟩ : ∃ s, s = w.heap.size := ⟨_, rfl⟩
 rw [← hs] at hz0 hb0 k3 k4 k5 n1 n2 hgw ⊢
 have d3 := blk_cell k3 0
 have d4 := blk_cell k4 0
 have f4 := blk_frozen k4 0
 have d5 := blk_cell k5 0
 simp only [List.getElem?_toArray, List.getElem?_cons_zero] at d3 d4 d5
 have HSZ := Lib.hid hs
 clear k3 k4 k5 hs
 refine wpIn_rangeFunc_ownH (α := Int × S60) rfl (by omega) (gf := 75) (lb := #[.pointer (some ⟨s + 1 + 1, 0, none⟩)]) rfl trivial eg
  (encs := bw_encs) (Kp := Below W0.heap.size) (S := fun ys => ys = bw_up D.w D.w.length) (Sp := fun pre => ∃ k, k ≤ D.w.length ∧ pre = bw_up D.w k) (N := D.w.length) (w0 := W0)
  (fun lp J Jx W hbW _ _ hY h0' => wait_backward1_in Fence.wide 2 trivial rfl (by omega) lp (s + 1 + 1) W0.heap.size A2 c2 D.w J Jx hY W hbW.size (by omega) ((hbW.cell (p := ⟨s + 1 + 1, 0, none⟩) (by simp only; omega)).trans d5) (Kd.C_below HC2.out (by rw [← HSZ.out]; exact hb0.trans (hbW.mono (by omega)))) (fun ad e hp => Nat.lt_of_lt_of_le (HA2.out ad e hp) (by have := HSZ.out; omega)) h0')
  belowK_t (belowK_b (Nat.le_refl _)) (Below.refl _ _) (fun _ => rfl)
  (fun pre W => (∀ y ∈ pre, y.2.f0 ≠ at_) ∧ Below W0.heap.size W0 W)
  (fun c pre W => (c = .ret ∧ ∃ ini last, pre = ini ++ [last] ∧ (∀ y ∈ ini, y.2.f0 ≠ at_) ∧ last.2.f0 = at_ ∧ W.cell? ⟨s + 1, 0, none⟩ = some (.string last.2.f1)) ∧ Below s w W)
  (OwnFrom.and (ownFrom_pure _ (fun pre : List (Int × S60) => ∀ y ∈ pre, y.2.f0 ≠ at_)) (ownFrom_below (Nat.le_refl _) (Nat.le_refl _)))
  (fun c => OwnFrom.and (Own.from (fun pre A B row hs hg hr => by obtain ⟨hc, ini, last, e1, e2, e3, e4⟩ := hs; exact ⟨hc, ini, last, e1, e2, e3, cell_kept e4 hg hr⟩) _) (ownFrom_below (Nat.le_of_eq HSZ.out) (by omega)))
  ⟨by simp, Below.refl _ _⟩
  (fun x a' W => ∃ Bx, s + 3 ≤ Bx ∧ W.cell? ⟨Bx, 0, none⟩ = some (.int .i64 x.2.f0) ∧ W.cell? ⟨Bx, 1, none⟩ = some (.string x.2.f1) ∧ a' = { tmps := #[.pointer (some ⟨g, 0, none⟩), .int .i64 at_, undef, .pointer (some ⟨s, 0, none⟩), .pointer (some ⟨s + 1, 0, none⟩), undef, .pointer (some ⟨Bx, 0, none⟩), .pointer (some ⟨g, 0, none⟩), .pointer (some ⟨g, 0, none⟩), .pointer (some ⟨g, 0, none⟩), .pointer (some ⟨g, 1, none⟩), .slice A2 D.w.length c2, .func (.func 75) #[] #[.pointer (some ⟨s + 1 + 1, 0, none⟩)], .int .i64 x.1, .agg #[.int .i64 x.2.f0, .string x.2.f1], undef, undef, undef, undef, undef, undef, undef, undef, undef, undef, undef, undef, undef, undef], defers := [] })
  (fun x a' => Own.from (fun _ A B row hs hg hr => by obtain ⟨Bx, e1, e2, e3, e4⟩ := hs; exact ⟨Bx, e1, cell_kept e2 hg hr, cell_kept e3 hg hr, e4⟩) _)
  ?assign ?body ?done ?stop
 case assign =>
  rintro l pre x W K ⟨hp, hB⟩ hK
  have hsz := hB.size
  unfold bw_encs
  gi_wp2
  have hbl := below_alloc (Below.refl W.heap.size W) (.cells #[.int .i64 x.2.f0, .string x.2.f1] 60)
  obtain ⟨q0, q1⟩ := (show (W.alloc (.cells #[.int .i64 x.2.f0, .string x.2.f1] 60)).cell? ⟨W.heap.size, 0, none⟩ = some (.int .i64 x.2.f0) ∧ (W.alloc (.cells #[.int .i64 x.2.f0, .string x.2.f1] 60)).cell? ⟨W.heap.size, 1, none⟩ = some (.string x.2.f1) from ⟨blk_cell (blk_new _ _) 0, blk_cell (blk_new _ _) 1⟩)
  exact hK _ _ ((KeepsOthers.alloc _ _).from _) (hbl.mono hsz) ⟨hp, hB.trans (hbl.mono hsz)⟩ ⟨W.heap.size, by omega, q0, q1, rfl⟩
 case body =>
  rintro l pre x a' W hl ⟨r, hr⟩ ⟨hp, hB⟩ ⟨Bx, hBx, hx0, hx1, rfl⟩ hlt
  have e3 := (hB.cell (p := ⟨s, 0, none⟩) (by simp only; omega)).trans d3
  have e4 := (hB.cell (p := ⟨s + 1, 0, none⟩) (by simp only; omega)).trans d4
  have g4 := (hB.frozen (p := ⟨s + 1, 0, none⟩) (by simp only; omega)).trans f4
  have HB := Lib.hid hB
  have HP := Lib.hid hp
  clear hB hp hr
  obtain ⟨xi, x0, x1⟩ := x
  simp only at hx0 hx1 ⊢
  by_cases hx : x0 = at_
  ·subst hx
   gi_wp2
   exact ⟨(KeepsOthers.setCell _ _ _).from _, ⟨rfl, pre, (xi, ⟨x0, x1⟩), rfl, HP.out, rfl, World.cell?_setCell_same' _ _ _ (by rw [e4]; rfl)⟩, (hb0.trans (HB.out.mono (by omega))).setCell (p := ⟨s + 1, 0, none⟩) (by simp only; omega) _⟩
  ·have hx2 : (x0 == at_) = false := beq_eq_false_iff_ne.mpr hx
   gi_wp2
   exact ⟨KeepsFrom.refl _ _, Below.refl _ _, fun y hy => (List.mem_append.1 hy).elim (HP.out y) (fun e => by simp at e; subst e; exact hx), HB.out⟩
 case done =>
  rintro D' ys W hD rfl ⟨hne, hB⟩ hK
  have e3 := (hB.cell (p := ⟨s, 0, none⟩) (by simp only; omega)).trans d3
  have e4 := (hB.cell (p := ⟨s + 1, 0, none⟩) (by simp only; omega)).trans d4
  have g4 := (hB.frozen (p := ⟨s + 1, 0, none⟩) (by simp only; omega)).trans f4
  have hbw : Below s w W := hb0.trans (hB.mono (by omega))
  have k0 := (hbw.cell (p := ⟨g, 0, none⟩) hgw).trans g0
  obtain ⟨ad, rfl, hx⟩ := Kd.at_string HC1.out at_ h0 h1
  replace hx := (hbw.cell (p := ad.add at_.toNat) (by have := World.block_lt_of_cell? w _ hx; have := HSZ.out; omega)).trans hx
  have hv : rdOf ByteArray.empty D.b at_ = r := by
   rw [HR.out]
   unfold dv_has rdOf
   rw [find_none_all (fun x hx => by
    have hm : x ∈ (bw_up D.w D.w.length).map (·.2) := by
     rw [bw_up_snd _ _ (Nat.le_refl _), List.take_of_length_le (by simp)]
     exact List.mem_reverse.2 hx
    obtain ⟨y, hy, rfl⟩ := List.mem_map.1 hm
    exact hne y hy)]
  rw [hv] at hx
  have mixed : Tryd.prog.follows Departure.mixedOrders = true := by kernel_rfl
  have HK := Lib.hid hK
  have HBW := Lib.hid hbw
  clear hK hne hB hbw hv
  gi_wp2
  refine (wpIn_wide (n := 3)).2 (wp_byEnd ?_)
  go_region_o
  all_goals refine byEnd_normal ?_
  all_goals gi_wp2
  all_goals
   have hK' : ((W.setCell ⟨s + 1, 0, none⟩ (.string r)).drew).heap[D']? = some (.deferred (some [])) := (KeepsOthers.setCell W ⟨s + 1, 0, none⟩ (.string r)).same D' _ HK.out rfl
   refine ⟨by simp, .inl ⟨_, _, rfl, run_takeDeferred hK', ?_⟩⟩
   have hc5 := cell_kept (W := (W.setCell ⟨s + 1, 0, none⟩ (.string r)).drew) (show ((W.setCell ⟨s + 1, 0, none⟩ (.string r)).drew).cell? ⟨s + 1, 0, none⟩ = some (.string r) from World.cell?_setCell_same' W ⟨s + 1, 0, none⟩ (.string r) (by rw [e4]; rfl)) (grownBy_putObj' _ D' (.deferred none)) (fun r e => by cases e; exact ⟨_, hK', rfl⟩)
   refine ⟨.string r, ?_, rfl, by rw [← HSZ.out]; exact (below_drew1 (HBW.out.setCell (p := ⟨s + 1, 0, none⟩) (by simp only; omega) _)).trans (belowK_b (w := W0) (by omega) _ D' _ _ (by omega) hK' rfl rfl)⟩
   simp [results, Tryd.results40, go_sem, hc5]
 case stop =>
  rintro D' c pre W hD ⟨k, hk, rfl⟩ ⟨⟨rfl, ini, last, e1, e2, e3, hcr⟩, hB⟩ hK
  gi_wp2
  refine ⟨by simp, .inl ⟨_, _, rfl, run_takeDeferred hK, ?_⟩⟩
  have hc5 := cell_kept hcr (grownBy_putObj' _ D' (.deferred none)) (fun r e => by cases e; exact ⟨_, hK, rfl⟩)
  obtain ⟨k', rfl⟩ : ∃ k', k = k' + 1 := by
   cases k with
   | zero => simp [bw_up] at e1
   | succ k' => exact ⟨k', rfl⟩
  rw [bw_up_succ] at e1
  obtain ⟨rfl, e5⟩ := List.append_inj' e1 rfl
  injection e5 with e5
  subst e5
  have hv : (D.w.getD (D.w.length - 1 - k') z60).f1 = r := by
   rw [HR.out]
   unfold dv_has
   rw [find_first (k := k') (by omega) (fun x hx => by
    have hm : x ∈ (bw_up D.w k').map (·.2) := by
     rw [bw_up_snd _ _ (by omega)]
     exact hx
    obtain ⟨y, hy, rfl⟩ := List.mem_map.1 hm
    exact e2 y hy) e3]
  refine ⟨.string r, ?_, rfl, by rw [← HSZ.out]; exact hB.trans (belowK_b (w := W0) (by omega) W D' _ _ (by omega) hK rfl rfl)⟩
  simp only [hv] at hc5
  simp [results, Tryd.results40, go_sem, hc5]
def IsS56 (w0 W : World) (g : Nat) (f0 : List ByteArray) (f1 : List (S60)) (f2 : Int) (f3 : Bool) : Prop := ∃ A0 c0, ∃ A1 c1, W.heap[g]? = some (.cells #[.slice A0 f0.length c0, .slice A1 f1.length c1, .int .i64 f2, .bool f3] 56 (0, 0)) ∧ w0.heap.size ≤ g ∧ Kd.C Kd.string w0 A0 f0.length f0 ∧ Kd.C k60 w0 A1 f1.length f1
theorem IsS56.grown {w0 W : World} {g : Nat} {f0 : List ByteArray} {f1 : List (S60)} {f2 : Int} {f3 : Bool} {W1 : World} {row : Option Nat} (h : IsS56 w0 W g f0 f1 f2 f3) (hw : W.grownBy W1 row) (hne : some g ≠ row) : IsS56 w0 W1 g f0 f1 f2 f3 := by
 obtain ⟨A0, c0, A1, c1, hb, hg, hr0, hr1⟩ := h
 exact ⟨A0, c0, A1, c1, blk_grown hb hw hne, hg, hr0, hr1⟩
theorem IsS56.kept {w0 W : World} {g : Nat} {f0 : List ByteArray} {f1 : List (S60)} {f2 : Int} {f3 : Bool} {W1 : World} {S : Nat → Prop} (h : IsS56 w0 W g f0 f1 f2 f3) (hk : Kept W W1 S) (hne : ¬ S g) : IsS56 w0 W1 g f0 f1 f2 f3 := by
 obtain ⟨A0, c0, A1, c1, hb, hg, hr0, hr1⟩ := h
 exact ⟨A0, c0, A1, c1, blk_kept hb hk hne, hg, hr0, hr1⟩
theorem IsS56.below {w0 W : World} {g : Nat} {f0 : List ByteArray} {f1 : List (S60)} {f2 : Int} {f3 : Bool} {W1 : World} (h : IsS56 w0 W g f0 f1 f2 f3) (hw : Below W.heap.size W W1) : IsS56 w0 W1 g f0 f1 f2 f3 := h.grown (grown_of_below hw none) (by simp)
theorem IsS56.alloc {w0 W : World} {g : Nat} {f0 : List ByteArray} {f1 : List (S60)} {f2 : Int} {f3 : Bool} (h : IsS56 w0 W g f0 f1 f2 f3) (o : Obj) : IsS56 w0 (W.alloc o) g f0 f1 f2 f3 := h.below (below_alloc (Below.refl _ _) o)
theorem IsS56.drewN {w0 W : World} {g : Nat} {f0 : List ByteArray} {f1 : List (S60)} {f2 : Int} {f3 : Bool} (h : IsS56 w0 W g f0 f1 f2 f3) (m : Nat) : IsS56 w0 (W.drewN m) g f0 f1 f2 f3 := h
theorem IsS56.drew {w0 W : World} {g : Nat} {f0 : List ByteArray} {f1 : List (S60)} {f2 : Int} {f3 : Bool} (h : IsS56 w0 W g f0 f1 f2 f3) : IsS56 w0 W.drew g f0 f1 f2 f3 := h
theorem IsS56.at_ {w0 W : World} {g : Nat} {f0 : List ByteArray} {f1 : List (S60)} {f2 : Int} {f3 : Bool} {w' : World} {m : Nat} (hq : W.drewN m = w') (h : IsS56 w0 W g f0 f1 f2 f3) : IsS56 w0 w' g f0 f1 f2 f3 := by subst hq; exact IsS56.drewN h m
theorem IsS56.apart {w0 W : World} {g : Nat} {f0 : List ByteArray} {f1 : List (S60)} {f2 : Int} {f3 : Bool} {α : Type} {d : Kd α} {e : Nat} {base : Nat} {ok : Nat → Prop} {v : Value} {xs : List α} (h : IsS56 w0 W g f0 f1 f2 f3) (ho : d.R e W base ok v xs) (ht : ∀ q, q ∈ e :: d.E → q ≠ 56) : d.R e W base (fun k => ok k ∧ k ≠ g) v xs := by
 obtain ⟨A0, c0, A1, c1, hb, hg, hr0, hr1⟩ := h
 exact Kd.R_types ho hb ht
theorem IsS56.own_ne {w0 W : World} {g : Nat} {f0 : List ByteArray} {f1 : List (S60)} {f2 : Int} {f3 : Bool} {α : Type} {d : Kd α} {e : Nat} {base : Nat} {ok : Nat → Prop} {v : Value} {xs : List α} (h : IsS56 w0 W g f0 f1 f2 f3) (ho : d.R e W base ok v xs) (ht : e ≠ 56) : some g ≠ v.ownBlock := by
 obtain ⟨A0, c0, A1, c1, hb, hg, hr0, hr1⟩ := h
 exact Kd.R_ne ho hb ht
theorem IsS56.lt {w0 W : World} {g : Nat} {f0 : List ByteArray} {f1 : List (S60)} {f2 : Int} {f3 : Bool} (h : IsS56 w0 W g f0 f1 f2 f3) : g < W.heap.size := by
 obtain ⟨A0, c0, A1, c1, hb, hg, hr0, hr1⟩ := h
 exact blk_lt hb
theorem IsS56.ge {w0 W : World} {g : Nat} {f0 : List ByteArray} {f1 : List (S60)} {f2 : Int} {f3 : Bool} (h : IsS56 w0 W g f0 f1 f2 f3) : w0.heap.size ≤ g := by
 obtain ⟨A0, c0, A1, c1, hb, hg, hr0, hr1⟩ := h
 exact hg
theorem cellS56_0 {W : World} {g : Nat} {A0 : Option Addr} {c0 : Nat} {A1 : Option Addr} {c1 : Nat} {f0 : List ByteArray} {f1 : List (S60)} {f2 : Int} {f3 : Bool} (h : W.heap[g]? = some (.cells #[.slice A0 f0.length c0, .slice A1 f1.length c1, .int .i64 f2, .bool f3] 56 (0, 0))) : W.cell? ⟨g, 0, none⟩ = some (.slice A0 f0.length c0) := (blk_cell h 0).trans rfl
theorem cellS56_1 {W : World} {g : Nat} {A0 : Option Addr} {c0 : Nat} {A1 : Option Addr} {c1 : Nat} {f0 : List ByteArray} {f1 : List (S60)} {f2 : Int} {f3 : Bool} (h : W.heap[g]? = some (.cells #[.slice A0 f0.length c0, .slice A1 f1.length c1, .int .i64 f2, .bool f3] 56 (0, 0))) : W.cell? ⟨g, 1, none⟩ = some (.slice A1 f1.length c1) := (blk_cell h 1).trans rfl
theorem cellS56_2 {W : World} {g : Nat} {A0 : Option Addr} {c0 : Nat} {A1 : Option Addr} {c1 : Nat} {f0 : List ByteArray} {f1 : List (S60)} {f2 : Int} {f3 : Bool} (h : W.heap[g]? = some (.cells #[.slice A0 f0.length c0, .slice A1 f1.length c1, .int .i64 f2, .bool f3] 56 (0, 0))) : W.cell? ⟨g, 2, none⟩ = some (.int .i64 f2) := (blk_cell h 2).trans rfl
theorem IsS56.set_2 {w0 W : World} {g : Nat} {f0 : List ByteArray} {f1 : List (S60)} {f2 : Int} {f3 : Bool} (h : IsS56 w0 W g f0 f1 f2 f3) (x : Int) : IsS56 w0 (W.setCell ⟨g, 2, none⟩ (.int .i64 x)) g f0 f1 x f3 := by
 obtain ⟨A0, c0, A1, c1, hb, hg, hr0, hr1⟩ := h
 exact ⟨A0, c0, A1, c1, by simpa using blk_set hb 2 (.int .i64 x), hg, hr0, hr1⟩
theorem cellS56_3 {W : World} {g : Nat} {A0 : Option Addr} {c0 : Nat} {A1 : Option Addr} {c1 : Nat} {f0 : List ByteArray} {f1 : List (S60)} {f2 : Int} {f3 : Bool} (h : W.heap[g]? = some (.cells #[.slice A0 f0.length c0, .slice A1 f1.length c1, .int .i64 f2, .bool f3] 56 (0, 0))) : W.cell? ⟨g, 3, none⟩ = some (.bool f3) := (blk_cell h 3).trans rfl
theorem IsS56.set_3 {w0 W : World} {g : Nat} {f0 : List ByteArray} {f1 : List (S60)} {f2 : Int} {f3 : Bool} (h : IsS56 w0 W g f0 f1 f2 f3) (x : Bool) : IsS56 w0 (W.setCell ⟨g, 3, none⟩ (.bool x)) g f0 f1 f2 x := by
 obtain ⟨A0, c0, A1, c1, hb, hg, hr0, hr1⟩ := h
 exact ⟨A0, c0, A1, c1, by simpa using blk_set hb 3 (.bool x), hg, hr0, hr1⟩
def block_Dev_there.f (s0_0 : List ByteArray) (s0_1 : List (S60)) (s0_2 : Int) (s0_3 : Bool) (a1 : Int) : Option (Bool × Int × Bool) := if a1 ≥ 0 then (some (decide (a1 < (s0_0.length : Int)), s0_2, s0_3)) else (some (false, s0_2, s0_3))
set_option maxHeartbeats 8000000 in
set_option maxRecDepth 100000 in
theorem block_Dev_there.calls (g : Nat) (s0_0 : List ByteArray) (s0_1 : List (S60)) (s0_2 : Int) (s0_3 : Bool) (a1 : Int) (r1 : Bool) (r2 : Int) (r3 : Bool) (w0 w : World) (hI : IsS56 w0 w g s0_0 s0_1 s0_2 s0_3) (hB : Below w0.heap.size w0 w) (h : block_Dev_there.f s0_0 s0_1 s0_2 s0_3 a1 = some (r1, r2, r3)) :
  Calls Tryd.prog 39 #[.pointer (some ⟨g, 0, none⟩), .int .i64 a1] w fun e w' => e = .returned (.bool r1) ∧ IsS56 w0 w' g s0_0 s0_1 r2 r3 ∧ Below w0.heap.size w0 w' ∧ KeepBut w w' g none := by
 have HI0 := Aside0.mk hI
 have HK := Aside0.mk (KeepBut.refl w g none)
 have HL := Aside0.mk hB.size
 clear hI
 have HW0 := Aside0.mk hB.size
 have HB := Aside0.mk hB
 clear hB
 have H : (if a1 ≥ 0 then (some (decide (a1 < (s0_0.length : Int)), s0_2, s0_3)) else (some (false, s0_2, s0_3))) = some (r1, r2, r3) := h
 clear h
 by_cases c3 : a1 ≥ 0
 ·rw [if_pos c3] at H
  have c3b0 : decide (0 ≤ a1) = true := decide_eq_true c3
  clear c3
  simp only [Option.some.injEq, Prod.mk.injEq] at H
  obtain ⟨rfl, rfl, rfl⟩ := H
  obtain ⟨ASz4_0, cSz4_0, ASz4_1, cSz4_1, HGz4, hgz4, HSz4_0, HSz4_1⟩ := HI0.out
  have hcz4_0 := cellS56_0 HGz4
  have hcz4_1 := cellS56_1 HGz4
  have hcz4_2 := cellS56_2 HGz4
  have hcz4_3 := cellS56_3 HGz4
  have hfz4_2 := blk_frozen HGz4 2
  have hfz4_3 := blk_frozen HGz4 3
  clear HGz4 hgz4
  go_enter Tryd.func39, Tryd.ntmps39
  go_wp2
  go_ret
  exact ⟨by first | rfl | (simp [errW_none, errW_some] <;> rfl) | (simp [*, errW_none, errW_some] <;> rfl), by repeat (first | (with_reducible first | exact HI0.out | apply IsS56.alloc | apply IsS56.drewN | apply IsS56.drew | apply IsS56.set_2 | apply IsS56.set_3) | exact HI0.out), by repeat (first | (with_reducible first | exact HB.out | apply below_alloc | apply pw_below_drewN | apply below_drew1 | refine below_set ?_ (IsS56.ge HI0.out)) | exact HB.out), by repeat (first | (with_reducible first | exact HK.out | apply KeepBut.set_ | apply keep_drewN | apply keep_drew | apply keep_alloc) | exact HK.out)⟩
 ·rw [if_neg c3] at H
  have c3b0 : decide (0 ≤ a1) = false := decide_eq_false c3
  clear c3
  simp only [Option.some.injEq, Prod.mk.injEq] at H
  obtain ⟨rfl, rfl, rfl⟩ := H
  go_enter Tryd.func39, Tryd.ntmps39
  go_wp2
  go_ret
  exact ⟨by first | rfl | (simp [errW_none, errW_some] <;> rfl) | (simp [*, errW_none, errW_some] <;> rfl), by repeat (first | (with_reducible first | exact HI0.out | apply IsS56.alloc | apply IsS56.drewN | apply IsS56.drew | apply IsS56.set_2 | apply IsS56.set_3) | exact HI0.out), by repeat (first | (with_reducible first | exact HB.out | apply below_alloc | apply pw_below_drewN | apply below_drew1 | refine below_set ?_ (IsS56.ge HI0.out)) | exact HB.out), by repeat (first | (with_reducible first | exact HK.out | apply KeepBut.set_ | apply keep_drewN | apply keep_drew | apply keep_alloc) | exact HK.out)⟩

end Go.Proofs.YthlnjbaichkipaaDoor.XR
