-- by px.py, a program of this session, over the kit's printer: functions given by hand stand beside printed ones. Lean checks all of it.
import Derived.Test.YtcblmfcgjemgkaaDoorXS0
import Derived.Test.YtcblmfcgjemgkaaDoorXS4
import Derived.Test.YtcblmfcgjemgkaaDoorXS14
namespace Go.Proofs.YtcblmfcgjemgkaaDoor.XS
open Go.RowKit Go.Proofs.YtcblmfcgjemgkaaDoorW.PrintWords Go.Proofs.YtcblmfcgjemgkaaDoorW.PrintLast Go.Proofs.YtcblmfcgjemgkaaDoorW.PrintMore
attribute [local go_sem] max2_int min2_int max_two min_two max_three min_three max_four min_four   -- for this text's walks alone
set_option linter.unusedVariables false
set_option linter.unusedSimpArgs false

/-! ### bellmanlaw10_ScanPlain: function 6 -/
def bellmanlaw10_ScanPlain.l0 : Nat → ByteArray → Int → Option (Bool)
 | 0, _, _ => none
 | k + 1, x0, x3 => if (wrap64 (x3 + 1)) < (x0.size : Int) then (if 0 ≤ x3 then (if x3 < (x0.size : Int) then (if (bt x0 x3) = 123 then (if 0 ≤ (wrap64 (x3 + 1)) then (if (bt x0 (wrap64 (x3 + 1))) = 123 then (some true) else (bellmanlaw10_ScanPlain.l0 k x0 (wrap64 (x3 + 1)))) else (none)) else (bellmanlaw10_ScanPlain.l0 k x0 (wrap64 (x3 + 1)))) else (none)) else (none)) else ((scan_Tokens.f k x0).bind fun bt315 => (if (x0.size : Int) > 1024 then (some (bt315.2 == 12)) else (if x0.toList = ([] : List UInt8) then (if bt315.2 = 0 then (some ((bt315.1.length : Int) == 0)) else (some false)) else (if bt315.2 = 0 then (if (bt315.1.length : Int) = 1 then (if 0 < (bt315.1.length : Int) then (if ((rd_T40 bt315.1 0).f0) = 1 then (some (((rd_T40 bt315.1 0).f1).toList == x0.toList)) else (some false)) else (none)) else (some false)) else (some false)))))
def bellmanlaw10_ScanPlain.f (k : Nat) (a0 : ByteArray) : Option (Bool) := (bellmanlaw10_lives.f k).bind fun t314 => (if t314 = true then (bellmanlaw10_ScanPlain.l0 k a0 0) else (none))
theorem bellmanlaw10_ScanPlain.mono_l : ∀ k, (∀ y0 y1, LeO (bellmanlaw10_ScanPlain.l0 k y0 y1) (bellmanlaw10_ScanPlain.l0 (k + 1) y0 y1))
 | 0 => fun _ _ r h => by simp [bellmanlaw10_ScanPlain.l0] at h
 | k + 1 => by
  have ih0 := bellmanlaw10_ScanPlain.mono_l k
  ·intro y0 y1
   unfold bellmanlaw10_ScanPlain.l0
   repeat' first
   | (with_reducible exact ih0 _ _)
   | (with_reducible exact bellmanlaw10_lives.mono _)
   | (with_reducible exact scan_Tokens.mono _ _)
   | (with_reducible exact LeO.refl _)
   | (with_reducible exact LeO.none _)
   | (with_reducible refine LeO.ite ?_ ?_)
   | (with_reducible refine LeO.bind ?_ (fun _ => ?_))
   | exact ih0 _ _
   | exact bellmanlaw10_lives.mono _
   | exact scan_Tokens.mono _ _
   | exact LeO.none _
   | refine LeO.ite ?_ ?_
   | refine LeO.bind ?_ (fun _ => ?_)
theorem bellmanlaw10_ScanPlain.mono : ∀ a0 k, LeO (bellmanlaw10_ScanPlain.f k a0) (bellmanlaw10_ScanPlain.f (k + 1) a0) := by
 intro a0 k
 have ih0 := bellmanlaw10_ScanPlain.mono_l k
 unfold bellmanlaw10_ScanPlain.f
 repeat' first
   | (with_reducible exact ih0 _ _)
   | (with_reducible exact bellmanlaw10_lives.mono _)
   | (with_reducible exact scan_Tokens.mono _ _)
   | (with_reducible exact LeO.refl _)
   | (with_reducible exact LeO.none _)
   | (with_reducible refine LeO.ite ?_ ?_)
   | (with_reducible refine LeO.bind ?_ (fun _ => ?_))
   | exact ih0 _ _
   | exact bellmanlaw10_lives.mono _
   | exact scan_Tokens.mono _ _
   | exact LeO.none _
   | refine LeO.ite ?_ ?_
   | refine LeO.bind ?_ (fun _ => ?_)
set_option maxHeartbeats 8000000 in
set_option maxRecDepth 100000 in
theorem bellmanlaw10_ScanPlain.calls (k : Nat) (a0 : ByteArray) (r : Bool) (w : World) (h : bellmanlaw10_ScanPlain.f k a0 = some r) (HG : GM w) :
  Calls Tryd.prog 6 #[.string a0] w fun e w' => e = .returned (.bool r) ∧ Below w.heap.size w w' := by
 have HB := Aside0.mk (Below.refl w.heap.size w)
 have H : ((bellmanlaw10_lives.f k).bind fun t314 => (if t314 = true then (bellmanlaw10_ScanPlain.l0 k a0 0) else (none))) = some r := h
 clear h
 replace H := Option.bind_eq_some_iff.mp H
 obtain ⟨t314, A20, H⟩ := H
 replace H : (if t314 = true then (bellmanlaw10_ScanPlain.l0 k a0 0) else (none)) = some r := H
 have A2 := Aside0.mk A20
 clear A20
 by_cases c3 : t314 = true
 ·subst c3
  have H1 : (bellmanlaw10_ScanPlain.l0 k a0 0) = some r := by rw [if_pos rfl] at H; exact H
  clear H
  have H := H1
  clear H1
  have H' := Aside0.mk H
  clear H
  go_enter Tryd.func6, Tryd.ntmps6
  go_wp2_with (first | ((with_reducible refine gate_callee (f := 12) rfl ?_); refine goesL_ (some 6) rfl rfl Tryd.func12 (by kernel_rfl) rfl #[] rfl (by (try simp only [List.map_toArray, List.map_cons, List.map_nil]); first | done | rfl | (simp only [List.length_drop, List.length_take]; rfl)) ?_; (with_reducible refine (bellmanlaw10_lives.calls k  true _ A2.out ?hg_).mono ?_); (case hg_ => first | ((with_reducible repeat (first | apply GM_drewN | apply GM_drew)); with_reducible exact HG) | exact GM_below HG (by repeat (first | (with_reducible first | exact HB.out | apply below_alloc | apply pw_below_drewN | apply below_drew1) | exact HB.out))); rintro e w4 ⟨rfl, hb⟩; refine ⟨_, rfl, ?_⟩; have n0_ := Aside0.mk (below_step (by repeat (first | (with_reducible first | exact HB.out | apply below_alloc | apply pw_below_drewN | apply below_drew1) | exact HB.out)) hb); clear HB; have HB := n0_; clear n0_; (try clear hb); (try clear hb2); (try clear hk); (try clear hi)))
  go_loopg [3] k (fun kq v3 w' => ∃ (x3_1 : Int), v3 = .int .i64 x3_1 ∧ Aside0 (bellmanlaw10_ScanPlain.l0 kq a0 x3_1 = some r) ∧ Aside0 (kq ≤ k) ∧ Aside0 (Below w.heap.size w w'))
  case atStart => exact ⟨(0), (by first | rfl | (simp; done) | (simp [*]; done)), H', ⟨Nat.le_refl _⟩, ⟨by repeat (first | (with_reducible first | exact HB.out | apply below_alloc | apply pw_below_drewN | apply below_drew1) | exact HB.out)⟩⟩
  case round =>
   clear H'
   try clear c1
   try clear p2
   try clear c3
   obtain ⟨x3_1, rfl, HA, HK1, HB⟩ := hrel
   cases gk with
   | zero => exact absurd HA.out (by simp [bellmanlaw10_ScanPlain.l0])
   | succ k1 =>
    have H := HA.out
    clear HA
    simp only [bellmanlaw10_ScanPlain.l0] at H
    by_cases c5 : (wrap64 (x3_1 + 1)) < (a0.size : Int)
    ·rw [if_pos c5] at H
     have c5b0 : decide ((wrap64 (x3_1 + 1)) < (a0.size : Int)) = true := decide_eq_true c5
     clear c5
     by_cases c6 : 0 ≤ x3_1
     ·rw [if_pos c6] at H
      have c6b0 : decide (0 ≤ x3_1) = true := decide_eq_true c6
      clear c6
      by_cases c7 : x3_1 < (a0.size : Int)
      ·rw [if_pos c7] at H
       have c7b0 : decide (x3_1 < (a0.size : Int)) = true := decide_eq_true c7
       clear c7
       by_cases c9 : (bt a0 x3_1) = 123
       ·rw [if_pos c9] at H
        have c9b0 : ((bt a0 x3_1) == 123) = true := beq_iff_eq.mpr c9
        have c9b1 : ((bt a0 x3_1) != 123) = false := bne_eq_false_iff_eq.mpr c9
        clear c9
        obtain ⟨ji10, hji10⟩ : ∃ j_ : Int, (wrap64 (x3_1 + 1)) = j_ := ⟨_, rfl⟩
        replace H : (if 0 ≤ (ji10) then (if (bt a0 (ji10)) = 123 then (some true) else (bellmanlaw10_ScanPlain.l0 k1 a0 ji10)) else (none)) = some r := by first | (rw [hji10] at H; exact H) | (simp only [hji10] at H ⊢; exact H)
        (try rw [hji10] at c5b0)
        have hji10w : (IntKind.i64.wrap (x3_1 + 1)) = ji10 := (i64_w _).trans hji10
        by_cases c11 : 0 ≤ (ji10)
        ·rw [if_pos c11] at H
         have c11b0 : decide (0 ≤ (ji10)) = true := decide_eq_true c11
         clear c11
         by_cases c13 : (bt a0 (ji10)) = 123
         ·rw [if_pos c13] at H
          have c13b0 : ((bt a0 (ji10)) == 123) = true := beq_iff_eq.mpr c13
          have c13b1 : ((bt a0 (ji10)) != 123) = false := bne_eq_false_iff_eq.mpr c13
          clear c13
          obtain rfl := Option.some.inj H
          have p8 : 0 ≤ (x3_1 : Int) := of_decide_eq_true (by first | (with_reducible assumption) | assumption)
          have q8 : x3_1 < (a0.size : Int) := of_decide_eq_true (by first | (with_reducible assumption) | assumption)
          have hx8 := bt_at a0 x3_1
          replace p8 := eq_true p8
          replace q8 := eq_true q8
          have p12 : 0 ≤ ((ji10) : Int) := of_decide_eq_true (by first | (with_reducible assumption) | assumption)
          have q12 : (ji10) < (a0.size : Int) := of_decide_eq_true (by first | (with_reducible assumption) | assumption)
          have hx12 := bt_at a0 (ji10)
          replace p12 := eq_true p12
          replace q12 := eq_true q12
          go_wp2
          go_ret
          exact ⟨by first | rfl | (simp [errW_none, errW_some] <;> rfl) | (simp only [← hji10]; first | rfl | (simp [errW_none, errW_some] <;> rfl)) | (simp [*, errW_none, errW_some] <;> rfl), by repeat (first | (with_reducible first | exact HB.out | apply below_alloc | apply pw_below_drewN | apply below_drew1) | exact HB.out)⟩
         ·rw [if_neg c13] at H
          have c13b0 : ((bt a0 (ji10)) == 123) = false := beq_eq_false_iff_ne.mpr c13
          have c13b1 : ((bt a0 (ji10)) != 123) = true := bne_iff_ne.mpr c13
          have H' := Aside0.mk H
          clear H
          have p8 : 0 ≤ (x3_1 : Int) := of_decide_eq_true (by first | (with_reducible assumption) | assumption)
          have q8 : x3_1 < (a0.size : Int) := of_decide_eq_true (by first | (with_reducible assumption) | assumption)
          have hx8 := bt_at a0 x3_1
          replace p8 := eq_true p8
          replace q8 := eq_true q8
          have p12 : 0 ≤ ((ji10) : Int) := of_decide_eq_true (by first | (with_reducible assumption) | assumption)
          have q12 : (ji10) < (a0.size : Int) := of_decide_eq_true (by first | (with_reducible assumption) | assumption)
          have hx12 := bt_at a0 (ji10)
          replace p12 := eq_true p12
          replace q12 := eq_true q12
          go_wp2
          go_roundg k1
          case measure => have := HK1.out; omega
          case rel => exact ⟨(ji10), (by first | rfl | (simp; done) | (simp only [← hji10] <;> (first | rfl | simp)) | (simp [*]; done)), H', ⟨by have := HK1.out; omega⟩, ⟨by repeat (first | (with_reducible first | exact HB.out | apply below_alloc | apply pw_below_drewN | apply below_drew1) | exact HB.out)⟩⟩
        ·rw [if_neg c11] at H
         exact absurd H (by simp)
       ·rw [if_neg c9] at H
        have c9b0 : ((bt a0 x3_1) == 123) = false := beq_eq_false_iff_ne.mpr c9
        have c9b1 : ((bt a0 x3_1) != 123) = true := bne_iff_ne.mpr c9
        have H' := Aside0.mk H
        clear H
        have p8 : 0 ≤ (x3_1 : Int) := of_decide_eq_true (by first | (with_reducible assumption) | assumption)
        have q8 : x3_1 < (a0.size : Int) := of_decide_eq_true (by first | (with_reducible assumption) | assumption)
        have hx8 := bt_at a0 x3_1
        replace p8 := eq_true p8
        replace q8 := eq_true q8
        go_wp2
        go_roundg k1
        case measure => have := HK1.out; omega
        case rel => exact ⟨(wrap64 (x3_1 + 1)), (by first | rfl | (simp; done) | (simp [*]; done)), H', ⟨by have := HK1.out; omega⟩, ⟨by repeat (first | (with_reducible first | exact HB.out | apply below_alloc | apply pw_below_drewN | apply below_drew1) | exact HB.out)⟩⟩
      ·rw [if_neg c7] at H
       exact absurd H (by simp)
     ·rw [if_neg c6] at H
      exact absurd H (by simp)
    ·rw [if_neg c5] at H
     have c5b0 : decide ((wrap64 (x3_1 + 1)) < (a0.size : Int)) = false := decide_eq_false c5
     clear c5
     replace H := Option.bind_eq_some_iff.mp H
     obtain ⟨⟨t315, t316⟩, A140, H⟩ := H
     replace H : (if (a0.size : Int) > 1024 then (some (t316 == 12)) else (if a0.toList = ([] : List UInt8) then (if t316 = 0 then (some ((t315.length : Int) == 0)) else (some false)) else (if t316 = 0 then (if (t315.length : Int) = 1 then (if 0 < (t315.length : Int) then (if ((rd_T40 t315 0).f0) = 1 then (some (((rd_T40 t315 0).f1).toList == a0.toList)) else (some false)) else (none)) else (some false)) else (some false)))) = some r := H
     have A14 := Aside0.mk A140
     clear A140
     by_cases c15 : (a0.size : Int) > 1024
     ·rw [if_pos c15] at H
      have c15b0 : decide (1024 < (a0.size : Int)) = true := decide_eq_true c15
      have c15b1 : decide (1024 < a0.size) = true := decide_eq_true (by omega)
      clear c15
      obtain rfl := Option.some.inj H
      go_wp2_with (first | ((with_reducible refine gate_callee (f := 8) rfl ?_); refine goesL_ (some 28) rfl rfl Tryd.func8 (by kernel_rfl) rfl #[.string a0] rfl (by (try simp only [List.map_toArray, List.map_cons, List.map_nil]); first | done | rfl | (simp only [List.length_drop, List.length_take]; rfl)) ?_; (with_reducible refine (scan_Tokens.calls k1 a0 t315 t316 _ A14.out ?hg_).mono ?_); (case hg_ => first | ((with_reducible repeat (first | apply GM_drewN | apply GM_drew)); with_reducible exact HG) | exact GM_below HG (by repeat (first | (with_reducible first | exact HB.out | apply below_alloc | apply pw_below_drewN | apply below_drew1) | exact HB.out))); rintro e w16 ⟨v317, rfl, ho0, hb⟩; refine ⟨_, rfl, ?_⟩; have n0_ := Aside0.mk (Kd.S_lower ho0 (below_size (by repeat (first | (with_reducible first | exact HB.out | apply below_alloc | apply pw_below_drewN | apply below_drew1) | exact HB.out)))); have n1_ := Aside0.mk (below_step (by repeat (first | (with_reducible first | exact HB.out | apply below_alloc | apply pw_below_drewN | apply below_drew1) | exact HB.out)) hb); clear HB; have HO318 := n0_; have HB := n1_; clear n0_ n1_; (try clear hb); (try clear hb2); (try clear hk); (try clear hi); (try clear ho0)))
      go_ret
      exact ⟨by first | rfl | (simp [errW_none, errW_some] <;> rfl) | (simp [*, errW_none, errW_some] <;> rfl), by repeat (first | (with_reducible first | exact HB.out | apply below_alloc | apply pw_below_drewN | apply below_drew1) | exact HB.out)⟩
     ·rw [if_neg c15] at H
      have c15b0 : decide (1024 < (a0.size : Int)) = false := decide_eq_false c15
      have c15b1 : decide (1024 < a0.size) = false := decide_eq_false (by omega)
      clear c15
      by_cases c17 : a0.toList = ([] : List UInt8)
      ·rw [if_pos c17] at H
       have c17b0 : (a0.toList == ([] : List UInt8)) = true := beq_iff_eq.mpr c17
       have c17b1 : (a0.toList != ([] : List UInt8)) = false := bne_eq_false_iff_eq.mpr c17
       clear c17
       by_cases c18 : t316 = 0
       ·rw [if_pos c18] at H
        have c18b0 : (t316 == 0) = true := beq_iff_eq.mpr c18
        have c18b1 : (t316 != 0) = false := bne_eq_false_iff_eq.mpr c18
        clear c18
        obtain rfl := Option.some.inj H
        go_wp2_with (first | ((with_reducible refine gate_callee (f := 8) rfl ?_); refine goesL_ (some 28) rfl rfl Tryd.func8 (by kernel_rfl) rfl #[.string a0] rfl (by (try simp only [List.map_toArray, List.map_cons, List.map_nil]); first | done | rfl | (simp only [List.length_drop, List.length_take]; rfl)) ?_; (with_reducible refine (scan_Tokens.calls k1 a0 t315 t316 _ A14.out ?hg_).mono ?_); (case hg_ => first | ((with_reducible repeat (first | apply GM_drewN | apply GM_drew)); with_reducible exact HG) | exact GM_below HG (by repeat (first | (with_reducible first | exact HB.out | apply below_alloc | apply pw_below_drewN | apply below_drew1) | exact HB.out))); rintro e w19 ⟨v317, rfl, ho0, hb⟩; refine ⟨_, rfl, ?_⟩; have n0_ := Aside0.mk (Kd.S_lower ho0 (below_size (by repeat (first | (with_reducible first | exact HB.out | apply below_alloc | apply pw_below_drewN | apply below_drew1) | exact HB.out)))); have n1_ := Aside0.mk (below_step (by repeat (first | (with_reducible first | exact HB.out | apply below_alloc | apply pw_below_drewN | apply below_drew1) | exact HB.out)) hb); clear HB; have HO318 := n0_; have HB := n1_; clear n0_ n1_; (try clear hb); (try clear hb2); (try clear hk); (try clear hi); (try clear ho0); obtain ⟨Ao20, co20, eo20⟩ := Kd.S_slice HO318.out; subst eo20))
        go_ret
        exact ⟨by first | rfl | (simp [errW_none, errW_some] <;> rfl) | (simp [*, errW_none, errW_some] <;> rfl), by repeat (first | (with_reducible first | exact HB.out | apply below_alloc | apply pw_below_drewN | apply below_drew1) | exact HB.out)⟩
       ·rw [if_neg c18] at H
        have c18b0 : (t316 == 0) = false := beq_eq_false_iff_ne.mpr c18
        have c18b1 : (t316 != 0) = true := bne_iff_ne.mpr c18
        obtain rfl := Option.some.inj H
        go_wp2_with (first | ((with_reducible refine gate_callee (f := 8) rfl ?_); refine goesL_ (some 28) rfl rfl Tryd.func8 (by kernel_rfl) rfl #[.string a0] rfl (by (try simp only [List.map_toArray, List.map_cons, List.map_nil]); first | done | rfl | (simp only [List.length_drop, List.length_take]; rfl)) ?_; (with_reducible refine (scan_Tokens.calls k1 a0 t315 t316 _ A14.out ?hg_).mono ?_); (case hg_ => first | ((with_reducible repeat (first | apply GM_drewN | apply GM_drew)); with_reducible exact HG) | exact GM_below HG (by repeat (first | (with_reducible first | exact HB.out | apply below_alloc | apply pw_below_drewN | apply below_drew1) | exact HB.out))); rintro e w21 ⟨v317, rfl, ho0, hb⟩; refine ⟨_, rfl, ?_⟩; have n0_ := Aside0.mk (Kd.S_lower ho0 (below_size (by repeat (first | (with_reducible first | exact HB.out | apply below_alloc | apply pw_below_drewN | apply below_drew1) | exact HB.out)))); have n1_ := Aside0.mk (below_step (by repeat (first | (with_reducible first | exact HB.out | apply below_alloc | apply pw_below_drewN | apply below_drew1) | exact HB.out)) hb); clear HB; have HO318 := n0_; have HB := n1_; clear n0_ n1_; (try clear hb); (try clear hb2); (try clear hk); (try clear hi); (try clear ho0)))
        go_ret
        exact ⟨by first | rfl | (simp [errW_none, errW_some] <;> rfl) | (simp [*, errW_none, errW_some] <;> rfl), by repeat (first | (with_reducible first | exact HB.out | apply below_alloc | apply pw_below_drewN | apply below_drew1) | exact HB.out)⟩
      ·rw [if_neg c17] at H
       have c17b0 : (a0.toList == ([] : List UInt8)) = false := beq_eq_false_iff_ne.mpr c17
       have c17b1 : (a0.toList != ([] : List UInt8)) = true := bne_iff_ne.mpr c17
       by_cases c22 : t316 = 0
       ·rw [if_pos c22] at H
        have c22b0 : (t316 == 0) = true := beq_iff_eq.mpr c22
        have c22b1 : (t316 != 0) = false := bne_eq_false_iff_eq.mpr c22
        clear c22
        by_cases c23 : (t315.length : Int) = 1
        ·rw [if_pos c23] at H
         have c23b0 : ((t315.length : Int) == 1) = true := beq_iff_eq.mpr c23
         have c23b1 : ((t315.length : Int) != 1) = false := bne_eq_false_iff_eq.mpr c23
         clear c23
         by_cases c24 : 0 < (t315.length : Int)
         ·rw [if_pos c24] at H
          have c24b0 : decide (0 < (t315.length : Int)) = true := decide_eq_true c24
          have c24b1 : decide (0 < t315.length) = true := decide_eq_true (by omega)
          clear c24
          by_cases c25 : ((rd_T40 t315 0).f0) = 1
          ·rw [if_pos c25] at H
           have c25b0 : (((rd_T40 t315 0).f0) == 1) = true := beq_iff_eq.mpr c25
           have c25b1 : (((rd_T40 t315 0).f0) != 1) = false := bne_eq_false_iff_eq.mpr c25
           clear c25
           obtain rfl := Option.some.inj H
           go_wp2_with (first | ((with_reducible refine gate_callee (f := 8) rfl ?_); refine goesL_ (some 28) rfl rfl Tryd.func8 (by kernel_rfl) rfl #[.string a0] rfl (by (try simp only [List.map_toArray, List.map_cons, List.map_nil]); first | done | rfl | (simp only [List.length_drop, List.length_take]; rfl)) ?_; (with_reducible refine (scan_Tokens.calls k1 a0 t315 t316 _ A14.out ?hg_).mono ?_); (case hg_ => first | ((with_reducible repeat (first | apply GM_drewN | apply GM_drew)); with_reducible exact HG) | exact GM_below HG (by repeat (first | (with_reducible first | exact HB.out | apply below_alloc | apply pw_below_drewN | apply below_drew1) | exact HB.out))); rintro e w26 ⟨v317, rfl, ho0, hb⟩; refine ⟨_, rfl, ?_⟩; have n0_ := Aside0.mk (Kd.S_lower ho0 (below_size (by repeat (first | (with_reducible first | exact HB.out | apply below_alloc | apply pw_below_drewN | apply below_drew1) | exact HB.out)))); have n1_ := Aside0.mk (below_step (by repeat (first | (with_reducible first | exact HB.out | apply below_alloc | apply pw_below_drewN | apply below_drew1) | exact HB.out)) hb); clear HB; have HO318 := n0_; have HB := n1_; clear n0_ n1_; (try clear hb); (try clear hb2); (try clear hk); (try clear hi); (try clear ho0); obtain ⟨Ao27, co27, eo27⟩ := Kd.S_slice HO318.out; subst eo27; have p319 : 0 ≤ (0 : Int) := (by omega); have q319 : 0 < (t315.length : Int) := of_decide_eq_true (by first | (with_reducible assumption) | assumption); obtain ⟨ad319, A319_2, c319_2, e319, hx319_0, hx319_1, hx319_2, hl319_2, hi319_2⟩ := at_T40 (Kd.S_reads' HO318.out).2.2 0 p319 q319; cases e319; obtain ⟨ce319, hce319, hMe319, hcc319⟩ := Kd.S_get HO318.out z40 0 p319 (by first | exact q319 | exact of_decide_eq_true (by first | (with_reducible assumption) | assumption) | (have e_ := (Kd.S_reads' HO318.out).1; omega)); obtain ⟨ve319_2, rfl, ge319_2⟩ := k40_openM hMe319; have hv319_2 := hcc319 2 _ rfl; rw [add_field _ _ 2 (by omega)] at hv319_2; replace hv319_2 := Option.some.inj (hv319_2.symm.trans hx319_2); rw [hv319_2] at ge319_2; have HL319_2 := Aside0.mk (show Kd.R Kd.string 9 _ _ _ _ ((rd_T40 t315 0).f2) from ge319_2); clear hv319_2 ge319_2; clear hcc319 hce319; have qi319 : (0 < t315.length) = True := eq_true (by omega); (try rw [show ((0 : Int)).toNat = 0 from rfl] at hx319_0); (try rw [show 0 * 3 = 0 from rfl] at hx319_0); (try rw [Addr.add_zero'] at hx319_0); (try rw [show ((0 : Int)).toNat = 0 from rfl] at hx319_1); (try rw [show 0 * 3 = 0 from rfl] at hx319_1); (try rw [Addr.add_zero'] at hx319_1); (try rw [show ((0 : Int)).toNat = 0 from rfl] at hx319_2); (try rw [show 0 * 3 = 0 from rfl] at hx319_2); (try rw [Addr.add_zero'] at hx319_2); have HR319_2 := Aside0.mk hi319_2; have HC319_2 := Aside0.mk hl319_2; clear hi319_2 hl319_2; replace p319 := eq_true p319; replace q319 := eq_true q319; have p320 : 0 ≤ (0 : Int) := (by omega); have q320 : 0 < (t315.length : Int) := of_decide_eq_true (by first | (with_reducible assumption) | assumption); obtain ⟨ad320, A320_2, c320_2, e320, hx320_0, hx320_1, hx320_2, hl320_2, hi320_2⟩ := at_T40 (Kd.S_reads' HO318.out).2.2 0 p320 q320; obtain rfl : ad319 = ad320 := (by injection e320); obtain ⟨ce320, hce320, hMe320, hcc320⟩ := Kd.S_get HO318.out z40 0 p320 (by first | exact q320 | exact of_decide_eq_true (by first | (with_reducible assumption) | assumption) | (have e_ := (Kd.S_reads' HO318.out).1; omega)); obtain ⟨ve320_2, rfl, ge320_2⟩ := k40_openM hMe320; have hv320_2 := hcc320 2 _ rfl; rw [add_field _ _ 2 (by omega)] at hv320_2; replace hv320_2 := Option.some.inj (hv320_2.symm.trans hx320_2); rw [hv320_2] at ge320_2; have HL320_2 := Aside0.mk (show Kd.R Kd.string 9 _ _ _ _ ((rd_T40 t315 0).f2) from ge320_2); clear hv320_2 ge320_2; clear hcc320 hce320; have qi320 : (0 < t315.length) = True := eq_true (by omega); (try rw [show ((0 : Int)).toNat = 0 from rfl] at hx320_0); (try rw [show 0 * 3 = 0 from rfl] at hx320_0); (try rw [Addr.add_zero'] at hx320_0); (try rw [show ((0 : Int)).toNat = 0 from rfl] at hx320_1); (try rw [show 0 * 3 = 0 from rfl] at hx320_1); (try rw [Addr.add_zero'] at hx320_1); (try rw [show ((0 : Int)).toNat = 0 from rfl] at hx320_2); (try rw [show 0 * 3 = 0 from rfl] at hx320_2); (try rw [Addr.add_zero'] at hx320_2); have HR320_2 := Aside0.mk hi320_2; have HC320_2 := Aside0.mk hl320_2; clear hi320_2 hl320_2; replace p320 := eq_true p320; replace q320 := eq_true q320; have ea_ := Option.some.inj (hx319_2.symm.trans hx320_2); injection ea_ with ea_ en_ ec_; subst ea_; subst ec_; clear en_))
           go_ret
           exact ⟨by first | rfl | (simp [errW_none, errW_some] <;> rfl) | (simp [*, errW_none, errW_some] <;> rfl), by repeat (first | (with_reducible first | exact HB.out | apply below_alloc | apply pw_below_drewN | apply below_drew1) | exact HB.out)⟩
          ·rw [if_neg c25] at H
           have c25b0 : (((rd_T40 t315 0).f0) == 1) = false := beq_eq_false_iff_ne.mpr c25
           have c25b1 : (((rd_T40 t315 0).f0) != 1) = true := bne_iff_ne.mpr c25
           obtain rfl := Option.some.inj H
           go_wp2_with (first | ((with_reducible refine gate_callee (f := 8) rfl ?_); refine goesL_ (some 28) rfl rfl Tryd.func8 (by kernel_rfl) rfl #[.string a0] rfl (by (try simp only [List.map_toArray, List.map_cons, List.map_nil]); first | done | rfl | (simp only [List.length_drop, List.length_take]; rfl)) ?_; (with_reducible refine (scan_Tokens.calls k1 a0 t315 t316 _ A14.out ?hg_).mono ?_); (case hg_ => first | ((with_reducible repeat (first | apply GM_drewN | apply GM_drew)); with_reducible exact HG) | exact GM_below HG (by repeat (first | (with_reducible first | exact HB.out | apply below_alloc | apply pw_below_drewN | apply below_drew1) | exact HB.out))); rintro e w28 ⟨v317, rfl, ho0, hb⟩; refine ⟨_, rfl, ?_⟩; have n0_ := Aside0.mk (Kd.S_lower ho0 (below_size (by repeat (first | (with_reducible first | exact HB.out | apply below_alloc | apply pw_below_drewN | apply below_drew1) | exact HB.out)))); have n1_ := Aside0.mk (below_step (by repeat (first | (with_reducible first | exact HB.out | apply below_alloc | apply pw_below_drewN | apply below_drew1) | exact HB.out)) hb); clear HB; have HO318 := n0_; have HB := n1_; clear n0_ n1_; (try clear hb); (try clear hb2); (try clear hk); (try clear hi); (try clear ho0); obtain ⟨Ao29, co29, eo29⟩ := Kd.S_slice HO318.out; subst eo29; have p319 : 0 ≤ (0 : Int) := (by omega); have q319 : 0 < (t315.length : Int) := of_decide_eq_true (by first | (with_reducible assumption) | assumption); obtain ⟨ad319, A319_2, c319_2, e319, hx319_0, hx319_1, hx319_2, hl319_2, hi319_2⟩ := at_T40 (Kd.S_reads' HO318.out).2.2 0 p319 q319; cases e319; obtain ⟨ce319, hce319, hMe319, hcc319⟩ := Kd.S_get HO318.out z40 0 p319 (by first | exact q319 | exact of_decide_eq_true (by first | (with_reducible assumption) | assumption) | (have e_ := (Kd.S_reads' HO318.out).1; omega)); obtain ⟨ve319_2, rfl, ge319_2⟩ := k40_openM hMe319; have hv319_2 := hcc319 2 _ rfl; rw [add_field _ _ 2 (by omega)] at hv319_2; replace hv319_2 := Option.some.inj (hv319_2.symm.trans hx319_2); rw [hv319_2] at ge319_2; have HL319_2 := Aside0.mk (show Kd.R Kd.string 9 _ _ _ _ ((rd_T40 t315 0).f2) from ge319_2); clear hv319_2 ge319_2; clear hcc319 hce319; have qi319 : (0 < t315.length) = True := eq_true (by omega); (try rw [show ((0 : Int)).toNat = 0 from rfl] at hx319_0); (try rw [show 0 * 3 = 0 from rfl] at hx319_0); (try rw [Addr.add_zero'] at hx319_0); (try rw [show ((0 : Int)).toNat = 0 from rfl] at hx319_1); (try rw [show 0 * 3 = 0 from rfl] at hx319_1); (try rw [Addr.add_zero'] at hx319_1); (try rw [show ((0 : Int)).toNat = 0 from rfl] at hx319_2); (try rw [show 0 * 3 = 0 from rfl] at hx319_2); (try rw [Addr.add_zero'] at hx319_2); have HR319_2 := Aside0.mk hi319_2; have HC319_2 := Aside0.mk hl319_2; clear hi319_2 hl319_2; replace p319 := eq_true p319; replace q319 := eq_true q319))
           go_ret
           exact ⟨by first | rfl | (simp [errW_none, errW_some] <;> rfl) | (simp [*, errW_none, errW_some] <;> rfl), by repeat (first | (with_reducible first | exact HB.out | apply below_alloc | apply pw_below_drewN | apply below_drew1) | exact HB.out)⟩
         ·rw [if_neg c24] at H
          exact absurd H (by simp)
        ·rw [if_neg c23] at H
         have c23b0 : ((t315.length : Int) == 1) = false := beq_eq_false_iff_ne.mpr c23
         have c23b1 : ((t315.length : Int) != 1) = true := bne_iff_ne.mpr c23
         obtain rfl := Option.some.inj H
         go_wp2_with (first | ((with_reducible refine gate_callee (f := 8) rfl ?_); refine goesL_ (some 28) rfl rfl Tryd.func8 (by kernel_rfl) rfl #[.string a0] rfl (by (try simp only [List.map_toArray, List.map_cons, List.map_nil]); first | done | rfl | (simp only [List.length_drop, List.length_take]; rfl)) ?_; (with_reducible refine (scan_Tokens.calls k1 a0 t315 t316 _ A14.out ?hg_).mono ?_); (case hg_ => first | ((with_reducible repeat (first | apply GM_drewN | apply GM_drew)); with_reducible exact HG) | exact GM_below HG (by repeat (first | (with_reducible first | exact HB.out | apply below_alloc | apply pw_below_drewN | apply below_drew1) | exact HB.out))); rintro e w30 ⟨v317, rfl, ho0, hb⟩; refine ⟨_, rfl, ?_⟩; have n0_ := Aside0.mk (Kd.S_lower ho0 (below_size (by repeat (first | (with_reducible first | exact HB.out | apply below_alloc | apply pw_below_drewN | apply below_drew1) | exact HB.out)))); have n1_ := Aside0.mk (below_step (by repeat (first | (with_reducible first | exact HB.out | apply below_alloc | apply pw_below_drewN | apply below_drew1) | exact HB.out)) hb); clear HB; have HO318 := n0_; have HB := n1_; clear n0_ n1_; (try clear hb); (try clear hb2); (try clear hk); (try clear hi); (try clear ho0); obtain ⟨Ao31, co31, eo31⟩ := Kd.S_slice HO318.out; subst eo31))
         go_ret
         exact ⟨by first | rfl | (simp [errW_none, errW_some] <;> rfl) | (simp [*, errW_none, errW_some] <;> rfl), by repeat (first | (with_reducible first | exact HB.out | apply below_alloc | apply pw_below_drewN | apply below_drew1) | exact HB.out)⟩
       ·rw [if_neg c22] at H
        have c22b0 : (t316 == 0) = false := beq_eq_false_iff_ne.mpr c22
        have c22b1 : (t316 != 0) = true := bne_iff_ne.mpr c22
        obtain rfl := Option.some.inj H
        go_wp2_with (first | ((with_reducible refine gate_callee (f := 8) rfl ?_); refine goesL_ (some 28) rfl rfl Tryd.func8 (by kernel_rfl) rfl #[.string a0] rfl (by (try simp only [List.map_toArray, List.map_cons, List.map_nil]); first | done | rfl | (simp only [List.length_drop, List.length_take]; rfl)) ?_; (with_reducible refine (scan_Tokens.calls k1 a0 t315 t316 _ A14.out ?hg_).mono ?_); (case hg_ => first | ((with_reducible repeat (first | apply GM_drewN | apply GM_drew)); with_reducible exact HG) | exact GM_below HG (by repeat (first | (with_reducible first | exact HB.out | apply below_alloc | apply pw_below_drewN | apply below_drew1) | exact HB.out))); rintro e w32 ⟨v317, rfl, ho0, hb⟩; refine ⟨_, rfl, ?_⟩; have n0_ := Aside0.mk (Kd.S_lower ho0 (below_size (by repeat (first | (with_reducible first | exact HB.out | apply below_alloc | apply pw_below_drewN | apply below_drew1) | exact HB.out)))); have n1_ := Aside0.mk (below_step (by repeat (first | (with_reducible first | exact HB.out | apply below_alloc | apply pw_below_drewN | apply below_drew1) | exact HB.out)) hb); clear HB; have HO318 := n0_; have HB := n1_; clear n0_ n1_; (try clear hb); (try clear hb2); (try clear hk); (try clear hi); (try clear ho0)))
        go_ret
        exact ⟨by first | rfl | (simp [errW_none, errW_some] <;> rfl) | (simp [*, errW_none, errW_some] <;> rfl), by repeat (first | (with_reducible first | exact HB.out | apply below_alloc | apply pw_below_drewN | apply below_drew1) | exact HB.out)⟩
 ·replace c3 := Bool.eq_false_iff.mpr c3
  subst c3
  have H1 : (none) = some r := by rw [if_neg (show ¬ (false = true) by decide)] at H; exact H
  clear H
  have H := H1
  clear H1
  exact absurd H (by simp)

end Go.Proofs.YtcblmfcgjemgkaaDoor.XS
-- squeezed
