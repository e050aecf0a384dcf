-- by px.py, a program of this session, over the kit's printer: functions given by hand stand beside printed ones. Lean checks all of it.
import Derived.Test.YtddjklpkhdhfkaaXT0
import Derived.Test.YtddjklpkhdhfkaaXT2
import Derived.Test.YtddjklpkhdhfkaaXT3
namespace Go.Proofs.Ytddjklpkhdhfkaa.XT
open Go.RowKit Go.Proofs.YtddjklpkhdhfkaaW.PrintWords Go.Proofs.YtddjklpkhdhfkaaW.PrintLast Go.Proofs.YtddjklpkhdhfkaaW.PrintMore
attribute [local go_sem] max2_int min2_int max_two min_two max_three min_three max_four min_four   -- for this text's walks alone
set_option linter.unusedVariables false
set_option linter.unusedSimpArgs false

/-! ### bellmantop_TopFramed: function 3 -/
mutual
def bellmantop_TopFramed.j0 : Nat → List ByteArray → List Int → ByteArray → ByteArray → ByteArray → Bool → Option (Bool)
  | 0, _, _, _, _, _, _ => none
  | k + 1, x0, x1, x2, x11, x13, x63 => if x63 = true then (some true) else (if x11.size + x13.size ≤ 9223372036854775807 then (if (x11 ++ x13).size + x2.size ≤ 9223372036854775807 then ((sum_Next.f ((x11 ++ x13) ++ x2)).bind fun bt157 => ((sum_Next.f bt157.2.1).bind fun bt160 => ((wire_GetTexts.f k bt157.1).bind fun bt163 => ((wire_GetNums.f k bt160.1).bind fun bt168 => (if bt157.2.2 = 0 then (if bt160.2.2 = 0 then (if bt163.2.2 = 0 then (if bt168.2.2 = 0 then (if bt163.2.1.toList = ([] : List UInt8) then (if bt168.2.1.toList = ([] : List UInt8) then (if bt160.2.1.toList = x2.toList then ((bellmantop_texts.f k bt163.1 x0).bind fun t173 => (if t173 = true then (bellmantop_TopFramed.j1 k x1 x2 x11 x13 bt168.1 ((bt168.1.length : Int) != (x1.length : Int))) else (bellmantop_TopFramed.j1 k x1 x2 x11 x13 bt168.1 true))) else (bellmantop_TopFramed.j1 k x1 x2 x11 x13 bt168.1 true)) else (bellmantop_TopFramed.j1 k x1 x2 x11 x13 bt168.1 true)) else (bellmantop_TopFramed.j1 k x1 x2 x11 x13 bt168.1 true)) else (bellmantop_TopFramed.j1 k x1 x2 x11 x13 bt168.1 true)) else (bellmantop_TopFramed.j1 k x1 x2 x11 x13 bt168.1 true)) else (bellmantop_TopFramed.j1 k x1 x2 x11 x13 bt168.1 true)) else (bellmantop_TopFramed.j1 k x1 x2 x11 x13 bt168.1 true)))))) else (none)) else (none))
def bellmantop_TopFramed.j1 : Nat → List Int → ByteArray → ByteArray → ByteArray → List Int → Bool → Option (Bool)
  | 0, _, _, _, _, _, _ => none
  | k + 1, x1, x2, x11, x13, x24, x131 => if x131 = true then (some false) else (bellmantop_TopFramed.l0 k x1 x2 x11 x13 x24 (x1.length : Int) 0)
def bellmantop_TopFramed.l0 : Nat → List Int → ByteArray → ByteArray → ByteArray → List Int → Int → Int → Option (Bool)
  | 0, _, _, _, _, _, _, _ => none
  | k + 1, x1, x2, x11, x13, x24, x133, x134 => if x134 < x133 then (if 0 ≤ x134 then (if x134 < (x24.length : Int) then (if x134 < (x1.length : Int) then (if (rd x24 x134) = (rd x1 x134) then (bellmantop_TopFramed.l0 k x1 x2 x11 x13 x24 x133 (wrap64 (x134 + 1))) else (some false)) else (none)) else (none)) else (none)) else ((sum_Fold.f (([x11, x13, x2] : List ByteArray))).bind fun t179 => ((sum_Of.f x11).bind fun t180 => (if x13.size + x2.size ≤ 9223372036854775807 then ((sum_On.f t180 (x13 ++ x2)).bind fun t181 => (some (t179 == t181))) else (none))))
end
def bellmantop_TopFramed.f (k : Nat) (l0 : List ByteArray) (l1 : List Int) (a2 : ByteArray) : Option (Bool) := (bellmantop_begins.f).bind fun t148 => (if t148 = true then ((wire_Texts.f k l0).bind fun bt149 => ((wire_Nums.f k l1).bind fun bt151 => ((sum_Frame.f bt149.1).bind fun bt153 => ((sum_Frame.f bt151.1).bind fun bt155 => (if bt149.2 = 0 then (if bt151.2 = 0 then (if bt153.2 = 0 then (bellmantop_TopFramed.j0 k l0 l1 a2 bt153.1 bt155.1 (bt155.2 != 0)) else (bellmantop_TopFramed.j0 k l0 l1 a2 bt153.1 bt155.1 true)) else (bellmantop_TopFramed.j0 k l0 l1 a2 bt153.1 bt155.1 true)) else (bellmantop_TopFramed.j0 k l0 l1 a2 bt153.1 bt155.1 true)))))) else (some false))
theorem bellmantop_TopFramed.mono_l : ∀ k, (∀ y0 y1 y2 y3 y4 y5, LeO (bellmantop_TopFramed.j0 k y0 y1 y2 y3 y4 y5) (bellmantop_TopFramed.j0 (k + 1) y0 y1 y2 y3 y4 y5)) ∧ (∀ y0 y1 y2 y3 y4 y5, LeO (bellmantop_TopFramed.j1 k y0 y1 y2 y3 y4 y5) (bellmantop_TopFramed.j1 (k + 1) y0 y1 y2 y3 y4 y5)) ∧ (∀ y0 y1 y2 y3 y4 y5 y6, LeO (bellmantop_TopFramed.l0 k y0 y1 y2 y3 y4 y5 y6) (bellmantop_TopFramed.l0 (k + 1) y0 y1 y2 y3 y4 y5 y6))
  | 0 => ⟨fun _ _ _ _ _ _ r h => by simp [bellmantop_TopFramed.j0] at h, fun _ _ _ _ _ _ r h => by simp [bellmantop_TopFramed.j1] at h, fun _ _ _ _ _ _ _ r h => by simp [bellmantop_TopFramed.l0] at h⟩
  | k + 1 => by
    obtain ⟨ih0, ih1, ih2⟩ := bellmantop_TopFramed.mono_l k
    refine ⟨?_, ?_, ?_⟩
    · intro y0 y1 y2 y3 y4 y5
      unfold bellmantop_TopFramed.j0
      repeat' first
      | (with_reducible exact ih0 _ _ _ _ _ _)
      | (with_reducible exact ih1 _ _ _ _ _ _)
      | (with_reducible exact ih2 _ _ _ _ _ _ _)
      | (with_reducible exact bellmantop_texts.mono _ _ _)
      | (with_reducible exact wire_GetNums.mono _ _)
      | (with_reducible exact wire_GetTexts.mono _ _)
      | (with_reducible exact wire_Nums.mono _ _)
      | (with_reducible exact wire_Texts.mono _ _)
      | (with_reducible exact LeO.refl _)
      | (with_reducible exact LeO.none _)
      | (with_reducible refine LeO.ite ?_ ?_)
      | (with_reducible refine LeO.bind ?_ (fun _ => ?_))
      | exact ih0 _ _ _ _ _ _
      | exact ih1 _ _ _ _ _ _
      | exact ih2 _ _ _ _ _ _ _
      | exact bellmantop_texts.mono _ _ _
      | exact wire_GetNums.mono _ _
      | exact wire_GetTexts.mono _ _
      | exact wire_Nums.mono _ _
      | exact wire_Texts.mono _ _
      | exact LeO.none _
      | refine LeO.ite ?_ ?_
      | refine LeO.bind ?_ (fun _ => ?_)
    · intro y0 y1 y2 y3 y4 y5
      unfold bellmantop_TopFramed.j1
      repeat' first
      | (with_reducible exact ih0 _ _ _ _ _ _)
      | (with_reducible exact ih1 _ _ _ _ _ _)
      | (with_reducible exact ih2 _ _ _ _ _ _ _)
      | (with_reducible exact bellmantop_texts.mono _ _ _)
      | (with_reducible exact wire_GetNums.mono _ _)
      | (with_reducible exact wire_GetTexts.mono _ _)
      | (with_reducible exact wire_Nums.mono _ _)
      | (with_reducible exact wire_Texts.mono _ _)
      | (with_reducible exact LeO.refl _)
      | (with_reducible exact LeO.none _)
      | (with_reducible refine LeO.ite ?_ ?_)
      | (with_reducible refine LeO.bind ?_ (fun _ => ?_))
      | exact ih0 _ _ _ _ _ _
      | exact ih1 _ _ _ _ _ _
      | exact ih2 _ _ _ _ _ _ _
      | exact bellmantop_texts.mono _ _ _
      | exact wire_GetNums.mono _ _
      | exact wire_GetTexts.mono _ _
      | exact wire_Nums.mono _ _
      | exact wire_Texts.mono _ _
      | exact LeO.none _
      | refine LeO.ite ?_ ?_
      | refine LeO.bind ?_ (fun _ => ?_)
    · intro y0 y1 y2 y3 y4 y5 y6
      unfold bellmantop_TopFramed.l0
      repeat' first
      | (with_reducible exact ih0 _ _ _ _ _ _)
      | (with_reducible exact ih1 _ _ _ _ _ _)
      | (with_reducible exact ih2 _ _ _ _ _ _ _)
      | (with_reducible exact bellmantop_texts.mono _ _ _)
      | (with_reducible exact wire_GetNums.mono _ _)
      | (with_reducible exact wire_GetTexts.mono _ _)
      | (with_reducible exact wire_Nums.mono _ _)
      | (with_reducible exact wire_Texts.mono _ _)
      | (with_reducible exact LeO.refl _)
      | (with_reducible exact LeO.none _)
      | (with_reducible refine LeO.ite ?_ ?_)
      | (with_reducible refine LeO.bind ?_ (fun _ => ?_))
      | exact ih0 _ _ _ _ _ _
      | exact ih1 _ _ _ _ _ _
      | exact ih2 _ _ _ _ _ _ _
      | exact bellmantop_texts.mono _ _ _
      | exact wire_GetNums.mono _ _
      | exact wire_GetTexts.mono _ _
      | exact wire_Nums.mono _ _
      | exact wire_Texts.mono _ _
      | exact LeO.none _
      | refine LeO.ite ?_ ?_
      | refine LeO.bind ?_ (fun _ => ?_)
theorem bellmantop_TopFramed.mono : ∀ a0 a1 a2 k, LeO (bellmantop_TopFramed.f k a0 a1 a2) (bellmantop_TopFramed.f (k + 1) a0 a1 a2) := by
  intro a0 a1 a2 k
  obtain ⟨ih0, ih1, ih2⟩ := bellmantop_TopFramed.mono_l k
  unfold bellmantop_TopFramed.f
  repeat' first
      | (with_reducible exact ih0 _ _ _ _ _ _)
      | (with_reducible exact ih1 _ _ _ _ _ _)
      | (with_reducible exact ih2 _ _ _ _ _ _ _)
      | (with_reducible exact bellmantop_texts.mono _ _ _)
      | (with_reducible exact wire_GetNums.mono _ _)
      | (with_reducible exact wire_GetTexts.mono _ _)
      | (with_reducible exact wire_Nums.mono _ _)
      | (with_reducible exact wire_Texts.mono _ _)
      | (with_reducible exact LeO.refl _)
      | (with_reducible exact LeO.none _)
      | (with_reducible refine LeO.ite ?_ ?_)
      | (with_reducible refine LeO.bind ?_ (fun _ => ?_))
      | exact ih0 _ _ _ _ _ _
      | exact ih1 _ _ _ _ _ _
      | exact ih2 _ _ _ _ _ _ _
      | exact bellmantop_texts.mono _ _ _
      | exact wire_GetNums.mono _ _
      | exact wire_GetTexts.mono _ _
      | exact wire_Nums.mono _ _
      | exact wire_Texts.mono _ _
      | exact LeO.none _
      | refine LeO.ite ?_ ?_
      | refine LeO.bind ?_ (fun _ => ?_)
set_option maxHeartbeats 8000000 in
set_option maxRecDepth 100000 in
theorem bellmantop_TopFramed.calls (k : Nat) (A0 : Option Addr) (c0 : Nat) (l0 : List ByteArray) (A1 : Option Addr) (c1 : Nat) (l1 : List Int) (a2 : ByteArray) (r : Bool) (w : World) (hr0 : Kd.C Kd.string w A0 l0.length l0) (hc0 : l0.length ≤ c0) (hr1 : Kd.C (Kd.int .i64) w A1 l1.length l1) (hc1 : l1.length ≤ c1) (h : bellmantop_TopFramed.f k l0 l1 a2 = some r) :
    Calls Try.prog 3 #[.slice A0 l0.length c0, .slice A1 l1.length c1, .string a2] w fun e w' => e = .returned (.bool r) ∧ Below w.heap.size w w' := by
  have HR0 := Aside0.mk hr0
  have HC0 := Aside0.mk hc0
  clear hr0 hc0
  have HR1 := Aside0.mk hr1
  have HC1 := Aside0.mk hc1
  clear hr1 hc1
  have HB := Aside0.mk (Below.refl w.heap.size w)
  have H : ((bellmantop_begins.f).bind fun t148 => (if t148 = true then ((wire_Texts.f k l0).bind fun bt149 => ((wire_Nums.f k l1).bind fun bt151 => ((sum_Frame.f bt149.1).bind fun bt153 => ((sum_Frame.f bt151.1).bind fun bt155 => (if bt149.2 = 0 then (if bt151.2 = 0 then (if bt153.2 = 0 then (bellmantop_TopFramed.j0 k l0 l1 a2 bt153.1 bt155.1 (bt155.2 != 0)) else (bellmantop_TopFramed.j0 k l0 l1 a2 bt153.1 bt155.1 true)) else (bellmantop_TopFramed.j0 k l0 l1 a2 bt153.1 bt155.1 true)) else (bellmantop_TopFramed.j0 k l0 l1 a2 bt153.1 bt155.1 true)))))) else (some false))) = some r := h
  clear h
  replace H := Option.bind_eq_some_iff.mp H
  obtain ⟨t148, A40, H⟩ := H
  replace H : (if t148 = true then ((wire_Texts.f k l0).bind fun bt149 => ((wire_Nums.f k l1).bind fun bt151 => ((sum_Frame.f bt149.1).bind fun bt153 => ((sum_Frame.f bt151.1).bind fun bt155 => (if bt149.2 = 0 then (if bt151.2 = 0 then (if bt153.2 = 0 then (bellmantop_TopFramed.j0 k l0 l1 a2 bt153.1 bt155.1 (bt155.2 != 0)) else (bellmantop_TopFramed.j0 k l0 l1 a2 bt153.1 bt155.1 true)) else (bellmantop_TopFramed.j0 k l0 l1 a2 bt153.1 bt155.1 true)) else (bellmantop_TopFramed.j0 k l0 l1 a2 bt153.1 bt155.1 true)))))) else (some false)) = some r := H
  have A4 := Aside0.mk A40
  clear A40
  by_cases c5 : t148 = true
  · subst c5
    have H1 : ((wire_Texts.f k l0).bind fun bt149 => ((wire_Nums.f k l1).bind fun bt151 => ((sum_Frame.f bt149.1).bind fun bt153 => ((sum_Frame.f bt151.1).bind fun bt155 => (if bt149.2 = 0 then (if bt151.2 = 0 then (if bt153.2 = 0 then (bellmantop_TopFramed.j0 k l0 l1 a2 bt153.1 bt155.1 (bt155.2 != 0)) else (bellmantop_TopFramed.j0 k l0 l1 a2 bt153.1 bt155.1 true)) else (bellmantop_TopFramed.j0 k l0 l1 a2 bt153.1 bt155.1 true)) else (bellmantop_TopFramed.j0 k l0 l1 a2 bt153.1 bt155.1 true)))))) = some r := by rw [if_pos rfl] at H; exact H
    clear H
    have H := H1
    clear H1
    replace H := Option.bind_eq_some_iff.mp H
    obtain ⟨⟨t149, t150⟩, A60, H⟩ := H
    replace H : ((wire_Nums.f k l1).bind fun bt151 => ((sum_Frame.f t149).bind fun bt153 => ((sum_Frame.f bt151.1).bind fun bt155 => (if t150 = 0 then (if bt151.2 = 0 then (if bt153.2 = 0 then (bellmantop_TopFramed.j0 k l0 l1 a2 bt153.1 bt155.1 (bt155.2 != 0)) else (bellmantop_TopFramed.j0 k l0 l1 a2 bt153.1 bt155.1 true)) else (bellmantop_TopFramed.j0 k l0 l1 a2 bt153.1 bt155.1 true)) else (bellmantop_TopFramed.j0 k l0 l1 a2 bt153.1 bt155.1 true))))) = some r := H
    have A6 := Aside0.mk A60
    clear A60
    replace H := Option.bind_eq_some_iff.mp H
    obtain ⟨⟨t151, t152⟩, A70, H⟩ := H
    replace H : ((sum_Frame.f t149).bind fun bt153 => ((sum_Frame.f t151).bind fun bt155 => (if t150 = 0 then (if t152 = 0 then (if bt153.2 = 0 then (bellmantop_TopFramed.j0 k l0 l1 a2 bt153.1 bt155.1 (bt155.2 != 0)) else (bellmantop_TopFramed.j0 k l0 l1 a2 bt153.1 bt155.1 true)) else (bellmantop_TopFramed.j0 k l0 l1 a2 bt153.1 bt155.1 true)) else (bellmantop_TopFramed.j0 k l0 l1 a2 bt153.1 bt155.1 true)))) = some r := H
    have A7 := Aside0.mk A70
    clear A70
    replace H := Option.bind_eq_some_iff.mp H
    obtain ⟨⟨t153, t154⟩, A80, H⟩ := H
    replace H : ((sum_Frame.f t151).bind fun bt155 => (if t150 = 0 then (if t152 = 0 then (if t154 = 0 then (bellmantop_TopFramed.j0 k l0 l1 a2 t153 bt155.1 (bt155.2 != 0)) else (bellmantop_TopFramed.j0 k l0 l1 a2 t153 bt155.1 true)) else (bellmantop_TopFramed.j0 k l0 l1 a2 t153 bt155.1 true)) else (bellmantop_TopFramed.j0 k l0 l1 a2 t153 bt155.1 true))) = some r := H
    have A8 := Aside0.mk A80
    clear A80
    replace H := Option.bind_eq_some_iff.mp H
    obtain ⟨⟨t155, t156⟩, A90, H⟩ := H
    replace H : (if t150 = 0 then (if t152 = 0 then (if t154 = 0 then (bellmantop_TopFramed.j0 k l0 l1 a2 t153 t155 (t156 != 0)) else (bellmantop_TopFramed.j0 k l0 l1 a2 t153 t155 true)) else (bellmantop_TopFramed.j0 k l0 l1 a2 t153 t155 true)) else (bellmantop_TopFramed.j0 k l0 l1 a2 t153 t155 true)) = some r := H
    have A9 := Aside0.mk A90
    clear A90
    have HC10 := Aside0.mk H
    clear H
    go_enter Try.func3, Try.ntmps3
    go_upto_region 7 with (first | (go_at_call 4; (with_reducible refine (bellmantop_begins.calls  true _ A4.out).mono ?_); rintro e w11 ⟨rfl, hb⟩; have n0_ := Aside0.mk (below_step (by repeat (first | (with_reducible first | exact HB.out | apply below_alloc | apply pw_below_drewN | apply below_drew1) | exact HB.out)) hb); clear HB; have HB := n0_; clear n0_; (try clear hb); (try clear hb2); (try clear hk); (try clear hi)) | (go_at_call 5; (with_reducible refine (wire_Texts.calls k _ _ l0 t149 t150 _ ?side1 ?side2 A6.out).mono ?_); (case side1 => repeat (first | exact (Kd.C_below HR0.out HB.out) | (with_reducible refine Kd.C_alloc ?_ _) | (with_reducible refine Kd.C_drewN ?_ _) | (with_reducible refine Kd.C_drew ?_))); (case side2 => exact HC0.out); rintro e w12 ⟨rfl, hb⟩; have n0_ := Aside0.mk (below_step (by repeat (first | (with_reducible first | exact HB.out | apply below_alloc | apply pw_below_drewN | apply below_drew1) | exact HB.out)) hb); clear HB; have HB := n0_; clear n0_; (try clear hb); (try clear hb2); (try clear hk); (try clear hi)) | (go_at_call 6; (with_reducible refine (wire_Nums.calls k _ _ l1 t151 t152 _ ?side1 ?side2 A7.out).mono ?_); (case side1 => repeat (first | exact (Kd.C_below HR1.out HB.out) | (with_reducible refine Kd.C_alloc ?_ _) | (with_reducible refine Kd.C_drewN ?_ _) | (with_reducible refine Kd.C_drew ?_))); (case side2 => exact HC1.out); rintro e w13 ⟨rfl, hb⟩; have n0_ := Aside0.mk (below_step (by repeat (first | (with_reducible first | exact HB.out | apply below_alloc | apply pw_below_drewN | apply below_drew1) | exact HB.out)) hb); clear HB; have HB := n0_; clear n0_; (try clear hb); (try clear hb2); (try clear hk); (try clear hi)) | (go_at_call 7; (with_reducible refine (sum_Frame.calls t149 t153 t154 _ A8.out).mono ?_); rintro e w14 ⟨rfl, hb⟩; have n0_ := Aside0.mk (below_step (by repeat (first | (with_reducible first | exact HB.out | apply below_alloc | apply pw_below_drewN | apply below_drew1) | exact HB.out)) hb); clear HB; have HB := n0_; clear n0_; (try clear hb); (try clear hb2); (try clear hk); (try clear hi)) | (go_at_call 7; (with_reducible refine (sum_Frame.calls t151 t155 t156 _ A9.out).mono ?_); rintro e w15 ⟨rfl, hb⟩; have n0_ := Aside0.mk (below_step (by repeat (first | (with_reducible first | exact HB.out | apply below_alloc | apply pw_below_drewN | apply below_drew1) | exact HB.out)) hb); clear HB; have HB := n0_; clear n0_; (try clear hb); (try clear hb2); (try clear hk); (try clear hi)))
    repeat (go_quiet (first | (go_at_call 4; (with_reducible refine (bellmantop_begins.calls  true _ A4.out).mono ?_); rintro e w11 ⟨rfl, hb⟩; have n0_ := Aside0.mk (below_step (by repeat (first | (with_reducible first | exact HB.out | apply below_alloc | apply pw_below_drewN | apply below_drew1) | exact HB.out)) hb); clear HB; have HB := n0_; clear n0_; (try clear hb); (try clear hb2); (try clear hk); (try clear hi)) | (go_at_call 5; (with_reducible refine (wire_Texts.calls k _ _ l0 t149 t150 _ ?side1 ?side2 A6.out).mono ?_); (case side1 => repeat (first | exact (Kd.C_below HR0.out HB.out) | (with_reducible refine Kd.C_alloc ?_ _) | (with_reducible refine Kd.C_drewN ?_ _) | (with_reducible refine Kd.C_drew ?_))); (case side2 => exact HC0.out); rintro e w12 ⟨rfl, hb⟩; have n0_ := Aside0.mk (below_step (by repeat (first | (with_reducible first | exact HB.out | apply below_alloc | apply pw_below_drewN | apply below_drew1) | exact HB.out)) hb); clear HB; have HB := n0_; clear n0_; (try clear hb); (try clear hb2); (try clear hk); (try clear hi)) | (go_at_call 6; (with_reducible refine (wire_Nums.calls k _ _ l1 t151 t152 _ ?side1 ?side2 A7.out).mono ?_); (case side1 => repeat (first | exact (Kd.C_below HR1.out HB.out) | (with_reducible refine Kd.C_alloc ?_ _) | (with_reducible refine Kd.C_drewN ?_ _) | (with_reducible refine Kd.C_drew ?_))); (case side2 => exact HC1.out); rintro e w13 ⟨rfl, hb⟩; have n0_ := Aside0.mk (below_step (by repeat (first | (with_reducible first | exact HB.out | apply below_alloc | apply pw_below_drewN | apply below_drew1) | exact HB.out)) hb); clear HB; have HB := n0_; clear n0_; (try clear hb); (try clear hb2); (try clear hk); (try clear hi)) | (go_at_call 7; (with_reducible refine (sum_Frame.calls t149 t153 t154 _ A8.out).mono ?_); rintro e w14 ⟨rfl, hb⟩; have n0_ := Aside0.mk (below_step (by repeat (first | (with_reducible first | exact HB.out | apply below_alloc | apply pw_below_drewN | apply below_drew1) | exact HB.out)) hb); clear HB; have HB := n0_; clear n0_; (try clear hb); (try clear hb2); (try clear hk); (try clear hi)) | (go_at_call 7; (with_reducible refine (sum_Frame.calls t151 t155 t156 _ A9.out).mono ?_); rintro e w15 ⟨rfl, hb⟩; have n0_ := Aside0.mk (below_step (by repeat (first | (with_reducible first | exact HB.out | apply below_alloc | apply pw_below_drewN | apply below_drew1) | exact HB.out)) hb); clear HB; have HB := n0_; clear n0_; (try clear hb); (try clear hb2); (try clear hk); (try clear hi))); go_upto_region 7 with (first | (go_at_call 4; (with_reducible refine (bellmantop_begins.calls  true _ A4.out).mono ?_); rintro e w11 ⟨rfl, hb⟩; have n0_ := Aside0.mk (below_step (by repeat (first | (with_reducible first | exact HB.out | apply below_alloc | apply pw_below_drewN | apply below_drew1) | exact HB.out)) hb); clear HB; have HB := n0_; clear n0_; (try clear hb); (try clear hb2); (try clear hk); (try clear hi)) | (go_at_call 5; (with_reducible refine (wire_Texts.calls k _ _ l0 t149 t150 _ ?side1 ?side2 A6.out).mono ?_); (case side1 => repeat (first | exact (Kd.C_below HR0.out HB.out) | (with_reducible refine Kd.C_alloc ?_ _) | (with_reducible refine Kd.C_drewN ?_ _) | (with_reducible refine Kd.C_drew ?_))); (case side2 => exact HC0.out); rintro e w12 ⟨rfl, hb⟩; have n0_ := Aside0.mk (below_step (by repeat (first | (with_reducible first | exact HB.out | apply below_alloc | apply pw_below_drewN | apply below_drew1) | exact HB.out)) hb); clear HB; have HB := n0_; clear n0_; (try clear hb); (try clear hb2); (try clear hk); (try clear hi)) | (go_at_call 6; (with_reducible refine (wire_Nums.calls k _ _ l1 t151 t152 _ ?side1 ?side2 A7.out).mono ?_); (case side1 => repeat (first | exact (Kd.C_below HR1.out HB.out) | (with_reducible refine Kd.C_alloc ?_ _) | (with_reducible refine Kd.C_drewN ?_ _) | (with_reducible refine Kd.C_drew ?_))); (case side2 => exact HC1.out); rintro e w13 ⟨rfl, hb⟩; have n0_ := Aside0.mk (below_step (by repeat (first | (with_reducible first | exact HB.out | apply below_alloc | apply pw_below_drewN | apply below_drew1) | exact HB.out)) hb); clear HB; have HB := n0_; clear n0_; (try clear hb); (try clear hb2); (try clear hk); (try clear hi)) | (go_at_call 7; (with_reducible refine (sum_Frame.calls t149 t153 t154 _ A8.out).mono ?_); rintro e w14 ⟨rfl, hb⟩; have n0_ := Aside0.mk (below_step (by repeat (first | (with_reducible first | exact HB.out | apply below_alloc | apply pw_below_drewN | apply below_drew1) | exact HB.out)) hb); clear HB; have HB := n0_; clear n0_; (try clear hb); (try clear hb2); (try clear hk); (try clear hi)) | (go_at_call 7; (with_reducible refine (sum_Frame.calls t151 t155 t156 _ A9.out).mono ?_); rintro e w15 ⟨rfl, hb⟩; have n0_ := Aside0.mk (below_step (by repeat (first | (with_reducible first | exact HB.out | apply below_alloc | apply pw_below_drewN | apply below_drew1) | exact HB.out)) hb); clear HB; have HB := n0_; clear n0_; (try clear hb); (try clear hb2); (try clear hk); (try clear hi))))
    (try simp only [Act.put, List.setIfInBounds_toArray, List.set_cons_zero, List.set_cons_succ])
    go_cut [63] (fun v63 wc => ∃ (kq : Nat) (x63_9 : Bool), v63 = .bool x63_9 ∧ Aside0 (bellmantop_TopFramed.j0 kq l0 l1 a2 t153 t155 x63_9 = some r) ∧ Aside0 (kq ≤ k) ∧ Aside0 (Below w.heap.size w wc))
    case first =>
      have H := HC10.out
      clear HC10
      by_cases c16 : t150 = 0
      · rw [if_pos c16] at H
        have c16b0 : (t150 == 0) = true := beq_iff_eq.mpr c16
        have c16b1 : (t150 != 0) = false := bne_eq_false_iff_eq.mpr c16
        clear c16
        (first | rw [c16b0] | (simp only [i64_w, i32_w]; rw [c16b0]) | skip)
        by_cases c17 : t152 = 0
        · rw [if_pos c17] at H
          have c17b0 : (t152 == 0) = true := beq_iff_eq.mpr c17
          have c17b1 : (t152 != 0) = false := bne_eq_false_iff_eq.mpr c17
          clear c17
          by_cases c18 : t154 = 0
          · rw [if_pos c18] at H
            have c18b0 : (t154 == 0) = true := beq_iff_eq.mpr c18
            have c18b1 : (t154 != 0) = false := bne_eq_false_iff_eq.mpr c18
            clear c18
            have H' := Aside0.mk H
            clear H
            go_wp2
            repeat (go_quiet (fail); try go_wp2)
            go_meet
            case rel => exact ⟨_, ((t156 != 0)), (by first | rfl | (simp; done) | (simp [*]; done)), H', ⟨by first | omega | exact Nat.le_refl _⟩, ⟨by repeat (first | (with_reducible first | exact HB.out | apply below_alloc | apply pw_below_drewN | apply below_drew1) | exact HB.out)⟩⟩
          · rw [if_neg c18] at H
            have c18b0 : (t154 == 0) = false := beq_eq_false_iff_ne.mpr c18
            have c18b1 : (t154 != 0) = true := bne_iff_ne.mpr c18
            have H' := Aside0.mk H
            clear H
            go_wp2
            repeat (go_quiet (fail); try go_wp2)
            go_meet
            case rel => exact ⟨_, (true), (by first | rfl | (simp; done) | (simp [*]; done)), H', ⟨by first | omega | exact Nat.le_refl _⟩, ⟨by repeat (first | (with_reducible first | exact HB.out | apply below_alloc | apply pw_below_drewN | apply below_drew1) | exact HB.out)⟩⟩
        · rw [if_neg c17] at H
          have c17b0 : (t152 == 0) = false := beq_eq_false_iff_ne.mpr c17
          have c17b1 : (t152 != 0) = true := bne_iff_ne.mpr c17
          have H' := Aside0.mk H
          clear H
          go_wp2
          repeat (go_quiet (fail); try go_wp2)
          go_meet
          case rel => exact ⟨_, (true), (by first | rfl | (simp; done) | (simp [*]; done)), H', ⟨by first | omega | exact Nat.le_refl _⟩, ⟨by repeat (first | (with_reducible first | exact HB.out | apply below_alloc | apply pw_below_drewN | apply below_drew1) | exact HB.out)⟩⟩
      · rw [if_neg c16] at H
        have c16b0 : (t150 == 0) = false := beq_eq_false_iff_ne.mpr c16
        have c16b1 : (t150 != 0) = true := bne_iff_ne.mpr c16
        (first | rw [c16b0] | (simp only [i64_w, i32_w]; rw [c16b0]) | skip)
        have H' := Aside0.mk H
        clear H
        go_wp2
        repeat (go_quiet (fail); try go_wp2)
        go_meet
        case rel => exact ⟨_, (true), (by first | rfl | (simp; done) | (simp [*]; done)), H', ⟨by first | omega | exact Nat.le_refl _⟩, ⟨by repeat (first | (with_reducible first | exact HB.out | apply below_alloc | apply pw_below_drewN | apply below_drew1) | exact HB.out)⟩⟩
    case rest =>
      clear HC10
      try clear c1
      try clear p2
      try clear c3
      try clear c5
      try clear c16
      try clear c16b0
      try clear c16b1
      try clear c17
      try clear c17b0
      try clear c17b1
      try clear c18
      try clear c18b0
      try clear c18b1
      obtain ⟨kq, x63_9, rfl, HA, HJ9, HB⟩ := hcut
      cases kq with
      | zero => exact absurd HA.out (by simp [bellmantop_TopFramed.j0])
      | succ kj9 =>
        have H := HA.out
        clear HA
        simp only [bellmantop_TopFramed.j0] at H
        by_cases c19 : x63_9 = true
        · subst c19
          have H1 : (some true) = some r := by rw [if_pos rfl] at H; exact H
          clear H
          have H := H1
          clear H1
          obtain rfl := Option.some.inj H
          go_wp2
          repeat (go_quiet (fail); try go_wp2)
          go_ret
          exact ⟨by first | rfl | (simp [errW_none, errW_some] <;> rfl) | (simp [*, errW_none, errW_some] <;> rfl), by repeat (first | (with_reducible first | exact HB.out | apply below_alloc | apply pw_below_drewN | apply below_drew1) | exact HB.out)⟩
        · replace c19 := Bool.eq_false_iff.mpr c19
          subst c19
          have H1 : (if t153.size + t155.size ≤ 9223372036854775807 then (if (t153 ++ t155).size + a2.size ≤ 9223372036854775807 then ((sum_Next.f ((t153 ++ t155) ++ a2)).bind fun bt157 => ((sum_Next.f bt157.2.1).bind fun bt160 => ((wire_GetTexts.f kj9 bt157.1).bind fun bt163 => ((wire_GetNums.f kj9 bt160.1).bind fun bt168 => (if bt157.2.2 = 0 then (if bt160.2.2 = 0 then (if bt163.2.2 = 0 then (if bt168.2.2 = 0 then (if bt163.2.1.toList = ([] : List UInt8) then (if bt168.2.1.toList = ([] : List UInt8) then (if bt160.2.1.toList = a2.toList then ((bellmantop_texts.f kj9 bt163.1 l0).bind fun t173 => (if t173 = true then (bellmantop_TopFramed.j1 kj9 l1 a2 t153 t155 bt168.1 ((bt168.1.length : Int) != (l1.length : Int))) else (bellmantop_TopFramed.j1 kj9 l1 a2 t153 t155 bt168.1 true))) else (bellmantop_TopFramed.j1 kj9 l1 a2 t153 t155 bt168.1 true)) else (bellmantop_TopFramed.j1 kj9 l1 a2 t153 t155 bt168.1 true)) else (bellmantop_TopFramed.j1 kj9 l1 a2 t153 t155 bt168.1 true)) else (bellmantop_TopFramed.j1 kj9 l1 a2 t153 t155 bt168.1 true)) else (bellmantop_TopFramed.j1 kj9 l1 a2 t153 t155 bt168.1 true)) else (bellmantop_TopFramed.j1 kj9 l1 a2 t153 t155 bt168.1 true)) else (bellmantop_TopFramed.j1 kj9 l1 a2 t153 t155 bt168.1 true)))))) else (none)) else (none)) = some r := by rw [if_neg (show ¬ (false = true) by decide)] at H; exact H
          clear H
          have H := H1
          clear H1
          by_cases c20 : t153.size + t155.size ≤ 9223372036854775807
          · rw [if_pos c20] at H
            have c20b0 := eq_true c20
            have c20b1 : decide (t153.size + t155.size ≤ 9223372036854775807) = true := decide_eq_true c20
            try have c20b2 : (9223372036854775807 < t153.size + t155.size) = False := eq_false (Nat.not_lt.2 c20)
            by_cases c21 : (t153 ++ t155).size + a2.size ≤ 9223372036854775807
            · rw [if_pos c21] at H
              have c21b0 := eq_true c21
              have c21b1 : decide ((t153 ++ t155).size + a2.size ≤ 9223372036854775807) = true := decide_eq_true c21
              try have c21b2 : (9223372036854775807 < (t153 ++ t155).size + a2.size) = False := eq_false (Nat.not_lt.2 c21)
              replace H := Option.bind_eq_some_iff.mp H
              obtain ⟨⟨t157, t158, t159⟩, A220, H⟩ := H
              replace H : ((sum_Next.f t158).bind fun bt160 => ((wire_GetTexts.f kj9 t157).bind fun bt163 => ((wire_GetNums.f kj9 bt160.1).bind fun bt168 => (if t159 = 0 then (if bt160.2.2 = 0 then (if bt163.2.2 = 0 then (if bt168.2.2 = 0 then (if bt163.2.1.toList = ([] : List UInt8) then (if bt168.2.1.toList = ([] : List UInt8) then (if bt160.2.1.toList = a2.toList then ((bellmantop_texts.f kj9 bt163.1 l0).bind fun t173 => (if t173 = true then (bellmantop_TopFramed.j1 kj9 l1 a2 t153 t155 bt168.1 ((bt168.1.length : Int) != (l1.length : Int))) else (bellmantop_TopFramed.j1 kj9 l1 a2 t153 t155 bt168.1 true))) else (bellmantop_TopFramed.j1 kj9 l1 a2 t153 t155 bt168.1 true)) else (bellmantop_TopFramed.j1 kj9 l1 a2 t153 t155 bt168.1 true)) else (bellmantop_TopFramed.j1 kj9 l1 a2 t153 t155 bt168.1 true)) else (bellmantop_TopFramed.j1 kj9 l1 a2 t153 t155 bt168.1 true)) else (bellmantop_TopFramed.j1 kj9 l1 a2 t153 t155 bt168.1 true)) else (bellmantop_TopFramed.j1 kj9 l1 a2 t153 t155 bt168.1 true)) else (bellmantop_TopFramed.j1 kj9 l1 a2 t153 t155 bt168.1 true))))) = some r := H
              have A22 := Aside0.mk A220
              clear A220
              replace H := Option.bind_eq_some_iff.mp H
              obtain ⟨⟨t160, t161, t162⟩, A230, H⟩ := H
              replace H : ((wire_GetTexts.f kj9 t157).bind fun bt163 => ((wire_GetNums.f kj9 t160).bind fun bt168 => (if t159 = 0 then (if t162 = 0 then (if bt163.2.2 = 0 then (if bt168.2.2 = 0 then (if bt163.2.1.toList = ([] : List UInt8) then (if bt168.2.1.toList = ([] : List UInt8) then (if t161.toList = a2.toList then ((bellmantop_texts.f kj9 bt163.1 l0).bind fun t173 => (if t173 = true then (bellmantop_TopFramed.j1 kj9 l1 a2 t153 t155 bt168.1 ((bt168.1.length : Int) != (l1.length : Int))) else (bellmantop_TopFramed.j1 kj9 l1 a2 t153 t155 bt168.1 true))) else (bellmantop_TopFramed.j1 kj9 l1 a2 t153 t155 bt168.1 true)) else (bellmantop_TopFramed.j1 kj9 l1 a2 t153 t155 bt168.1 true)) else (bellmantop_TopFramed.j1 kj9 l1 a2 t153 t155 bt168.1 true)) else (bellmantop_TopFramed.j1 kj9 l1 a2 t153 t155 bt168.1 true)) else (bellmantop_TopFramed.j1 kj9 l1 a2 t153 t155 bt168.1 true)) else (bellmantop_TopFramed.j1 kj9 l1 a2 t153 t155 bt168.1 true)) else (bellmantop_TopFramed.j1 kj9 l1 a2 t153 t155 bt168.1 true)))) = some r := H
              have A23 := Aside0.mk A230
              clear A230
              replace H := Option.bind_eq_some_iff.mp H
              obtain ⟨⟨t163, t164, t165⟩, A240, H⟩ := H
              replace H : ((wire_GetNums.f kj9 t160).bind fun bt168 => (if t159 = 0 then (if t162 = 0 then (if t165 = 0 then (if bt168.2.2 = 0 then (if t164.toList = ([] : List UInt8) then (if bt168.2.1.toList = ([] : List UInt8) then (if t161.toList = a2.toList then ((bellmantop_texts.f kj9 t163 l0).bind fun t173 => (if t173 = true then (bellmantop_TopFramed.j1 kj9 l1 a2 t153 t155 bt168.1 ((bt168.1.length : Int) != (l1.length : Int))) else (bellmantop_TopFramed.j1 kj9 l1 a2 t153 t155 bt168.1 true))) else (bellmantop_TopFramed.j1 kj9 l1 a2 t153 t155 bt168.1 true)) else (bellmantop_TopFramed.j1 kj9 l1 a2 t153 t155 bt168.1 true)) else (bellmantop_TopFramed.j1 kj9 l1 a2 t153 t155 bt168.1 true)) else (bellmantop_TopFramed.j1 kj9 l1 a2 t153 t155 bt168.1 true)) else (bellmantop_TopFramed.j1 kj9 l1 a2 t153 t155 bt168.1 true)) else (bellmantop_TopFramed.j1 kj9 l1 a2 t153 t155 bt168.1 true)) else (bellmantop_TopFramed.j1 kj9 l1 a2 t153 t155 bt168.1 true))) = some r := H
              have A24 := Aside0.mk A240
              clear A240
              replace H := Option.bind_eq_some_iff.mp H
              obtain ⟨⟨t168, t169, t170⟩, A250, H⟩ := H
              replace H : (if t159 = 0 then (if t162 = 0 then (if t165 = 0 then (if t170 = 0 then (if t164.toList = ([] : List UInt8) then (if t169.toList = ([] : List UInt8) then (if t161.toList = a2.toList then ((bellmantop_texts.f kj9 t163 l0).bind fun t173 => (if t173 = true then (bellmantop_TopFramed.j1 kj9 l1 a2 t153 t155 t168 ((t168.length : Int) != (l1.length : Int))) else (bellmantop_TopFramed.j1 kj9 l1 a2 t153 t155 t168 true))) else (bellmantop_TopFramed.j1 kj9 l1 a2 t153 t155 t168 true)) else (bellmantop_TopFramed.j1 kj9 l1 a2 t153 t155 t168 true)) else (bellmantop_TopFramed.j1 kj9 l1 a2 t153 t155 t168 true)) else (bellmantop_TopFramed.j1 kj9 l1 a2 t153 t155 t168 true)) else (bellmantop_TopFramed.j1 kj9 l1 a2 t153 t155 t168 true)) else (bellmantop_TopFramed.j1 kj9 l1 a2 t153 t155 t168 true)) else (bellmantop_TopFramed.j1 kj9 l1 a2 t153 t155 t168 true)) = some r := H
              have A25 := Aside0.mk A250
              clear A250
              have HC26 := Aside0.mk H
              clear H
              go_upto_region 13 with (first | (go_at_call 8; (with_reducible refine (sum_Next.calls ((t153 ++ t155) ++ a2) t157 t158 t159 _ A22.out).mono ?_); rintro e w27 ⟨rfl, hb⟩; have n0_ := Aside0.mk (below_step (by repeat (first | (with_reducible first | exact HB.out | apply below_alloc | apply pw_below_drewN | apply below_drew1) | exact HB.out)) hb); clear HB; have HB := n0_; clear n0_; (try clear hb); (try clear hb2); (try clear hk); (try clear hi)) | (go_at_call 8; (with_reducible refine (sum_Next.calls t158 t160 t161 t162 _ A23.out).mono ?_); rintro e w28 ⟨rfl, hb⟩; have n0_ := Aside0.mk (below_step (by repeat (first | (with_reducible first | exact HB.out | apply below_alloc | apply pw_below_drewN | apply below_drew1) | exact HB.out)) hb); clear HB; have HB := n0_; clear n0_; (try clear hb); (try clear hb2); (try clear hk); (try clear hi)) | (go_at_call 9; (with_reducible refine (wire_GetTexts.calls kj9 t157 t163 t164 t165 _ A24.out).mono ?_); rintro e w29 ⟨v166, rfl, ho0, hb⟩; have n0_ := Aside0.mk (Kd.R_lower ho0 (below_size (by repeat (first | (with_reducible first | exact HB.out | apply below_alloc | apply pw_below_drewN | apply below_drew1) | exact HB.out)))); have n1_ := Aside0.mk (below_step (by repeat (first | (with_reducible first | exact HB.out | apply below_alloc | apply pw_below_drewN | apply below_drew1) | exact HB.out)) hb); clear HB; have HO167 := n0_; have HB := n1_; clear n0_ n1_; (try clear hb); (try clear hb2); (try clear hk); (try clear hi); (try clear ho0)) | (go_at_call 10; (with_reducible refine (wire_GetNums.calls kj9 t160 t168 t169 t170 _ A25.out).mono ?_); rintro e w30 ⟨v171, rfl, ho0, hb⟩; have n0_ := Aside0.mk (Kd.R_below (by (with_reducible repeat (first | apply Kd.R_alloc | apply Kd.R_drewN | apply Kd.R_drew)); exact HO167.out) hb); have n1_ := Aside0.mk (Kd.R_lower ho0 (below_size (by repeat (first | (with_reducible first | exact HB.out | apply below_alloc | apply pw_below_drewN | apply below_drew1) | exact HB.out)))); have n2_ := Aside0.mk (below_step (by repeat (first | (with_reducible first | exact HB.out | apply below_alloc | apply pw_below_drewN | apply below_drew1) | exact HB.out)) hb); clear HO167; clear HB; have HO167 := n0_; have HO172 := n1_; have HB := n2_; clear n0_ n1_ n2_; (try clear hb); (try clear hb2); (try clear hk); (try clear hi); (try clear ho0)))
              repeat (go_quiet (first | (go_at_call 8; (with_reducible refine (sum_Next.calls ((t153 ++ t155) ++ a2) t157 t158 t159 _ A22.out).mono ?_); rintro e w27 ⟨rfl, hb⟩; have n0_ := Aside0.mk (below_step (by repeat (first | (with_reducible first | exact HB.out | apply below_alloc | apply pw_below_drewN | apply below_drew1) | exact HB.out)) hb); clear HB; have HB := n0_; clear n0_; (try clear hb); (try clear hb2); (try clear hk); (try clear hi)) | (go_at_call 8; (with_reducible refine (sum_Next.calls t158 t160 t161 t162 _ A23.out).mono ?_); rintro e w28 ⟨rfl, hb⟩; have n0_ := Aside0.mk (below_step (by repeat (first | (with_reducible first | exact HB.out | apply below_alloc | apply pw_below_drewN | apply below_drew1) | exact HB.out)) hb); clear HB; have HB := n0_; clear n0_; (try clear hb); (try clear hb2); (try clear hk); (try clear hi)) | (go_at_call 9; (with_reducible refine (wire_GetTexts.calls kj9 t157 t163 t164 t165 _ A24.out).mono ?_); rintro e w29 ⟨v166, rfl, ho0, hb⟩; have n0_ := Aside0.mk (Kd.R_lower ho0 (below_size (by repeat (first | (with_reducible first | exact HB.out | apply below_alloc | apply pw_below_drewN | apply below_drew1) | exact HB.out)))); have n1_ := Aside0.mk (below_step (by repeat (first | (with_reducible first | exact HB.out | apply below_alloc | apply pw_below_drewN | apply below_drew1) | exact HB.out)) hb); clear HB; have HO167 := n0_; have HB := n1_; clear n0_ n1_; (try clear hb); (try clear hb2); (try clear hk); (try clear hi); (try clear ho0)) | (go_at_call 10; (with_reducible refine (wire_GetNums.calls kj9 t160 t168 t169 t170 _ A25.out).mono ?_); rintro e w30 ⟨v171, rfl, ho0, hb⟩; have n0_ := Aside0.mk (Kd.R_below (by (with_reducible repeat (first | apply Kd.R_alloc | apply Kd.R_drewN | apply Kd.R_drew)); exact HO167.out) hb); have n1_ := Aside0.mk (Kd.R_lower ho0 (below_size (by repeat (first | (with_reducible first | exact HB.out | apply below_alloc | apply pw_below_drewN | apply below_drew1) | exact HB.out)))); have n2_ := Aside0.mk (below_step (by repeat (first | (with_reducible first | exact HB.out | apply below_alloc | apply pw_below_drewN | apply below_drew1) | exact HB.out)) hb); clear HO167; clear HB; have HO167 := n0_; have HO172 := n1_; have HB := n2_; clear n0_ n1_ n2_; (try clear hb); (try clear hb2); (try clear hk); (try clear hi); (try clear ho0))); go_upto_region 13 with (first | (go_at_call 8; (with_reducible refine (sum_Next.calls ((t153 ++ t155) ++ a2) t157 t158 t159 _ A22.out).mono ?_); rintro e w27 ⟨rfl, hb⟩; have n0_ := Aside0.mk (below_step (by repeat (first | (with_reducible first | exact HB.out | apply below_alloc | apply pw_below_drewN | apply below_drew1) | exact HB.out)) hb); clear HB; have HB := n0_; clear n0_; (try clear hb); (try clear hb2); (try clear hk); (try clear hi)) | (go_at_call 8; (with_reducible refine (sum_Next.calls t158 t160 t161 t162 _ A23.out).mono ?_); rintro e w28 ⟨rfl, hb⟩; have n0_ := Aside0.mk (below_step (by repeat (first | (with_reducible first | exact HB.out | apply below_alloc | apply pw_below_drewN | apply below_drew1) | exact HB.out)) hb); clear HB; have HB := n0_; clear n0_; (try clear hb); (try clear hb2); (try clear hk); (try clear hi)) | (go_at_call 9; (with_reducible refine (wire_GetTexts.calls kj9 t157 t163 t164 t165 _ A24.out).mono ?_); rintro e w29 ⟨v166, rfl, ho0, hb⟩; have n0_ := Aside0.mk (Kd.R_lower ho0 (below_size (by repeat (first | (with_reducible first | exact HB.out | apply below_alloc | apply pw_below_drewN | apply below_drew1) | exact HB.out)))); have n1_ := Aside0.mk (below_step (by repeat (first | (with_reducible first | exact HB.out | apply below_alloc | apply pw_below_drewN | apply below_drew1) | exact HB.out)) hb); clear HB; have HO167 := n0_; have HB := n1_; clear n0_ n1_; (try clear hb); (try clear hb2); (try clear hk); (try clear hi); (try clear ho0)) | (go_at_call 10; (with_reducible refine (wire_GetNums.calls kj9 t160 t168 t169 t170 _ A25.out).mono ?_); rintro e w30 ⟨v171, rfl, ho0, hb⟩; have n0_ := Aside0.mk (Kd.R_below (by (with_reducible repeat (first | apply Kd.R_alloc | apply Kd.R_drewN | apply Kd.R_drew)); exact HO167.out) hb); have n1_ := Aside0.mk (Kd.R_lower ho0 (below_size (by repeat (first | (with_reducible first | exact HB.out | apply below_alloc | apply pw_below_drewN | apply below_drew1) | exact HB.out)))); have n2_ := Aside0.mk (below_step (by repeat (first | (with_reducible first | exact HB.out | apply below_alloc | apply pw_below_drewN | apply below_drew1) | exact HB.out)) hb); clear HO167; clear HB; have HO167 := n0_; have HO172 := n1_; have HB := n2_; clear n0_ n1_ n2_; (try clear hb); (try clear hb2); (try clear hk); (try clear hi); (try clear ho0))))
              (try simp only [Act.put, List.setIfInBounds_toArray, List.set_cons_zero, List.set_cons_succ])
              go_cut [131] (fun v131 wc => ∃ (kq : Nat) (x131_25 : Bool), v131 = .bool x131_25 ∧ Aside0 (bellmantop_TopFramed.j1 kq l1 a2 t153 t155 t168 x131_25 = some r) ∧ Aside0 (kq ≤ kj9) ∧ Aside0 (Kd.R (Kd.int .i64) 2 wc w.heap.size (fun _ => True) v171 t168) ∧ Aside0 (Below w.heap.size w wc))
              case first =>
                have H := HC26.out
                clear HC26
                by_cases c31 : t159 = 0
                · rw [if_pos c31] at H
                  have c31b0 : (t159 == 0) = true := beq_iff_eq.mpr c31
                  have c31b1 : (t159 != 0) = false := bne_eq_false_iff_eq.mpr c31
                  clear c31
                  (first | rw [c31b0] | (simp only [i64_w, i32_w]; rw [c31b0]) | skip)
                  by_cases c32 : t162 = 0
                  · rw [if_pos c32] at H
                    have c32b0 : (t162 == 0) = true := beq_iff_eq.mpr c32
                    have c32b1 : (t162 != 0) = false := bne_eq_false_iff_eq.mpr c32
                    clear c32
                    by_cases c33 : t165 = 0
                    · rw [if_pos c33] at H
                      have c33b0 : (t165 == 0) = true := beq_iff_eq.mpr c33
                      have c33b1 : (t165 != 0) = false := bne_eq_false_iff_eq.mpr c33
                      clear c33
                      by_cases c34 : t170 = 0
                      · rw [if_pos c34] at H
                        have c34b0 : (t170 == 0) = true := beq_iff_eq.mpr c34
                        have c34b1 : (t170 != 0) = false := bne_eq_false_iff_eq.mpr c34
                        clear c34
                        by_cases c35 : t164.toList = ([] : List UInt8)
                        · rw [if_pos c35] at H
                          have c35b0 : (t164.toList == ([] : List UInt8)) = true := beq_iff_eq.mpr c35
                          have c35b1 : (t164.toList != ([] : List UInt8)) = false := bne_eq_false_iff_eq.mpr c35
                          clear c35
                          by_cases c36 : t169.toList = ([] : List UInt8)
                          · rw [if_pos c36] at H
                            have c36b0 : (t169.toList == ([] : List UInt8)) = true := beq_iff_eq.mpr c36
                            have c36b1 : (t169.toList != ([] : List UInt8)) = false := bne_eq_false_iff_eq.mpr c36
                            clear c36
                            by_cases c37 : t161.toList = a2.toList
                            · rw [if_pos c37] at H
                              have c37b0 : (t161.toList == a2.toList) = true := beq_iff_eq.mpr c37
                              have c37b1 : (t161.toList != a2.toList) = false := bne_eq_false_iff_eq.mpr c37
                              clear c37
                              replace H := Option.bind_eq_some_iff.mp H
                              obtain ⟨t173, A380, H⟩ := H
                              replace H : (if t173 = true then (bellmantop_TopFramed.j1 kj9 l1 a2 t153 t155 t168 ((t168.length : Int) != (l1.length : Int))) else (bellmantop_TopFramed.j1 kj9 l1 a2 t153 t155 t168 true)) = some r := H
                              have A38 := Aside0.mk A380
                              clear A380
                              by_cases c39 : t173 = true
                              · subst c39
                                have H1 : (bellmantop_TopFramed.j1 kj9 l1 a2 t153 t155 t168 ((t168.length : Int) != (l1.length : Int))) = some r := by rw [if_pos rfl] at H; exact H
                                clear H
                                have H := H1
                                clear H1
                                have H' := Aside0.mk H
                                clear H
                                obtain ⟨Ao40, co40, eo40⟩ := Kd.R_slice HO167.out
                                subst eo40
                                go_wp2_with (first | (go_at_call 11; (with_reducible refine (bellmantop_texts.calls kj9 _ _ t163 _ _ l0 true _ ?side1 ?side2 ?side3 ?side4 A38.out).mono ?_); (case side1 => repeat (first | exact (Kd.R_reads' HO167.out).2.2 | (with_reducible refine Kd.C_alloc ?_ _) | (with_reducible refine Kd.C_drewN ?_ _) | (with_reducible refine Kd.C_drew ?_))); (case side2 => exact (Kd.R_reads' HO167.out).2.1); (case side3 => repeat (first | exact (Kd.C_below HR0.out HB.out) | (with_reducible refine Kd.C_alloc ?_ _) | (with_reducible refine Kd.C_drewN ?_ _) | (with_reducible refine Kd.C_drew ?_))); (case side4 => exact HC0.out); rintro e w' ⟨rfl, ⟨nd, rfl⟩⟩; (try first | exact ⟨rfl, _, World.drewN_drewN _ _ _⟩ | exact ⟨rfl, _, Eq.trans (World.drewN_drewN _ _ _) (congrArg (World.drewN _) (Nat.add_assoc _ _ _))⟩); obtain ⟨Ao41, co41, eo41⟩ := Kd.R_slice HO172.out; subst eo41))
                                repeat (go_quiet (first | (go_at_call 11; (with_reducible refine (bellmantop_texts.calls kj9 _ _ t163 _ _ l0 true _ ?side1 ?side2 ?side3 ?side4 A38.out).mono ?_); (case side1 => repeat (first | exact (Kd.R_reads' HO167.out).2.2 | (with_reducible refine Kd.C_alloc ?_ _) | (with_reducible refine Kd.C_drewN ?_ _) | (with_reducible refine Kd.C_drew ?_))); (case side2 => exact (Kd.R_reads' HO167.out).2.1); (case side3 => repeat (first | exact (Kd.C_below HR0.out HB.out) | (with_reducible refine Kd.C_alloc ?_ _) | (with_reducible refine Kd.C_drewN ?_ _) | (with_reducible refine Kd.C_drew ?_))); (case side4 => exact HC0.out); rintro e w' ⟨rfl, ⟨nd, rfl⟩⟩; (try first | exact ⟨rfl, _, World.drewN_drewN _ _ _⟩ | exact ⟨rfl, _, Eq.trans (World.drewN_drewN _ _ _) (congrArg (World.drewN _) (Nat.add_assoc _ _ _))⟩); obtain ⟨Ao41, co41, eo41⟩ := Kd.R_slice HO172.out; subst eo41)); try go_wp2_with (first | (go_at_call 11; (with_reducible refine (bellmantop_texts.calls kj9 _ _ t163 _ _ l0 true _ ?side1 ?side2 ?side3 ?side4 A38.out).mono ?_); (case side1 => repeat (first | exact (Kd.R_reads' HO167.out).2.2 | (with_reducible refine Kd.C_alloc ?_ _) | (with_reducible refine Kd.C_drewN ?_ _) | (with_reducible refine Kd.C_drew ?_))); (case side2 => exact (Kd.R_reads' HO167.out).2.1); (case side3 => repeat (first | exact (Kd.C_below HR0.out HB.out) | (with_reducible refine Kd.C_alloc ?_ _) | (with_reducible refine Kd.C_drewN ?_ _) | (with_reducible refine Kd.C_drew ?_))); (case side4 => exact HC0.out); rintro e w' ⟨rfl, ⟨nd, rfl⟩⟩; (try first | exact ⟨rfl, _, World.drewN_drewN _ _ _⟩ | exact ⟨rfl, _, Eq.trans (World.drewN_drewN _ _ _) (congrArg (World.drewN _) (Nat.add_assoc _ _ _))⟩); obtain ⟨Ao41, co41, eo41⟩ := Kd.R_slice HO172.out; subst eo41)))
                                go_meet
                                case rel => exact ⟨_, (((t168.length : Int) != (l1.length : Int))), (by first | rfl | (simp; done) | (simp [*]; done)), H', ⟨by have := HJ9.out; first | omega | exact Nat.le_refl _⟩, ⟨by (with_reducible repeat (first | apply Kd.R_alloc | apply Kd.R_drewN | apply Kd.R_drew)); exact HO172.out⟩, ⟨by repeat (first | (with_reducible first | exact HB.out | apply below_alloc | apply pw_below_drewN | apply below_drew1) | exact HB.out)⟩⟩
                              · replace c39 := Bool.eq_false_iff.mpr c39
                                subst c39
                                have H1 : (bellmantop_TopFramed.j1 kj9 l1 a2 t153 t155 t168 true) = some r := by rw [if_neg (show ¬ (false = true) by decide)] at H; exact H
                                clear H
                                have H := H1
                                clear H1
                                have H' := Aside0.mk H
                                clear H
                                obtain ⟨Ao42, co42, eo42⟩ := Kd.R_slice HO167.out
                                subst eo42
                                go_wp2_with (first | (go_at_call 11; (with_reducible refine (bellmantop_texts.calls kj9 _ _ t163 _ _ l0 false _ ?side1 ?side2 ?side3 ?side4 A38.out).mono ?_); (case side1 => repeat (first | exact (Kd.R_reads' HO167.out).2.2 | (with_reducible refine Kd.C_alloc ?_ _) | (with_reducible refine Kd.C_drewN ?_ _) | (with_reducible refine Kd.C_drew ?_))); (case side2 => exact (Kd.R_reads' HO167.out).2.1); (case side3 => repeat (first | exact (Kd.C_below HR0.out HB.out) | (with_reducible refine Kd.C_alloc ?_ _) | (with_reducible refine Kd.C_drewN ?_ _) | (with_reducible refine Kd.C_drew ?_))); (case side4 => exact HC0.out); rintro e w' ⟨rfl, ⟨nd, rfl⟩⟩; (try first | exact ⟨rfl, _, World.drewN_drewN _ _ _⟩ | exact ⟨rfl, _, Eq.trans (World.drewN_drewN _ _ _) (congrArg (World.drewN _) (Nat.add_assoc _ _ _))⟩)))
                                repeat (go_quiet (first | (go_at_call 11; (with_reducible refine (bellmantop_texts.calls kj9 _ _ t163 _ _ l0 false _ ?side1 ?side2 ?side3 ?side4 A38.out).mono ?_); (case side1 => repeat (first | exact (Kd.R_reads' HO167.out).2.2 | (with_reducible refine Kd.C_alloc ?_ _) | (with_reducible refine Kd.C_drewN ?_ _) | (with_reducible refine Kd.C_drew ?_))); (case side2 => exact (Kd.R_reads' HO167.out).2.1); (case side3 => repeat (first | exact (Kd.C_below HR0.out HB.out) | (with_reducible refine Kd.C_alloc ?_ _) | (with_reducible refine Kd.C_drewN ?_ _) | (with_reducible refine Kd.C_drew ?_))); (case side4 => exact HC0.out); rintro e w' ⟨rfl, ⟨nd, rfl⟩⟩; (try first | exact ⟨rfl, _, World.drewN_drewN _ _ _⟩ | exact ⟨rfl, _, Eq.trans (World.drewN_drewN _ _ _) (congrArg (World.drewN _) (Nat.add_assoc _ _ _))⟩))); try go_wp2_with (first | (go_at_call 11; (with_reducible refine (bellmantop_texts.calls kj9 _ _ t163 _ _ l0 false _ ?side1 ?side2 ?side3 ?side4 A38.out).mono ?_); (case side1 => repeat (first | exact (Kd.R_reads' HO167.out).2.2 | (with_reducible refine Kd.C_alloc ?_ _) | (with_reducible refine Kd.C_drewN ?_ _) | (with_reducible refine Kd.C_drew ?_))); (case side2 => exact (Kd.R_reads' HO167.out).2.1); (case side3 => repeat (first | exact (Kd.C_below HR0.out HB.out) | (with_reducible refine Kd.C_alloc ?_ _) | (with_reducible refine Kd.C_drewN ?_ _) | (with_reducible refine Kd.C_drew ?_))); (case side4 => exact HC0.out); rintro e w' ⟨rfl, ⟨nd, rfl⟩⟩; (try first | exact ⟨rfl, _, World.drewN_drewN _ _ _⟩ | exact ⟨rfl, _, Eq.trans (World.drewN_drewN _ _ _) (congrArg (World.drewN _) (Nat.add_assoc _ _ _))⟩))))
                                go_meet
                                case rel => exact ⟨_, (true), (by first | rfl | (simp; done) | (simp [*]; done)), H', ⟨by have := HJ9.out; first | omega | exact Nat.le_refl _⟩, ⟨by (with_reducible repeat (first | apply Kd.R_alloc | apply Kd.R_drewN | apply Kd.R_drew)); exact HO172.out⟩, ⟨by repeat (first | (with_reducible first | exact HB.out | apply below_alloc | apply pw_below_drewN | apply below_drew1) | exact HB.out)⟩⟩
                            · rw [if_neg c37] at H
                              have c37b0 : (t161.toList == a2.toList) = false := beq_eq_false_iff_ne.mpr c37
                              have c37b1 : (t161.toList != a2.toList) = true := bne_iff_ne.mpr c37
                              have H' := Aside0.mk H
                              clear H
                              go_wp2
                              repeat (go_quiet (fail); try go_wp2)
                              go_meet
                              case rel => exact ⟨_, (true), (by first | rfl | (simp; done) | (simp [*]; done)), H', ⟨by have := HJ9.out; first | omega | exact Nat.le_refl _⟩, ⟨by (with_reducible repeat (first | apply Kd.R_alloc | apply Kd.R_drewN | apply Kd.R_drew)); exact HO172.out⟩, ⟨by repeat (first | (with_reducible first | exact HB.out | apply below_alloc | apply pw_below_drewN | apply below_drew1) | exact HB.out)⟩⟩
                          · rw [if_neg c36] at H
                            have c36b0 : (t169.toList == ([] : List UInt8)) = false := beq_eq_false_iff_ne.mpr c36
                            have c36b1 : (t169.toList != ([] : List UInt8)) = true := bne_iff_ne.mpr c36
                            have H' := Aside0.mk H
                            clear H
                            go_wp2
                            repeat (go_quiet (fail); try go_wp2)
                            go_meet
                            case rel => exact ⟨_, (true), (by first | rfl | (simp; done) | (simp [*]; done)), H', ⟨by have := HJ9.out; first | omega | exact Nat.le_refl _⟩, ⟨by (with_reducible repeat (first | apply Kd.R_alloc | apply Kd.R_drewN | apply Kd.R_drew)); exact HO172.out⟩, ⟨by repeat (first | (with_reducible first | exact HB.out | apply below_alloc | apply pw_below_drewN | apply below_drew1) | exact HB.out)⟩⟩
                        · rw [if_neg c35] at H
                          have c35b0 : (t164.toList == ([] : List UInt8)) = false := beq_eq_false_iff_ne.mpr c35
                          have c35b1 : (t164.toList != ([] : List UInt8)) = true := bne_iff_ne.mpr c35
                          have H' := Aside0.mk H
                          clear H
                          go_wp2
                          repeat (go_quiet (fail); try go_wp2)
                          go_meet
                          case rel => exact ⟨_, (true), (by first | rfl | (simp; done) | (simp [*]; done)), H', ⟨by have := HJ9.out; first | omega | exact Nat.le_refl _⟩, ⟨by (with_reducible repeat (first | apply Kd.R_alloc | apply Kd.R_drewN | apply Kd.R_drew)); exact HO172.out⟩, ⟨by repeat (first | (with_reducible first | exact HB.out | apply below_alloc | apply pw_below_drewN | apply below_drew1) | exact HB.out)⟩⟩
                      · rw [if_neg c34] at H
                        have c34b0 : (t170 == 0) = false := beq_eq_false_iff_ne.mpr c34
                        have c34b1 : (t170 != 0) = true := bne_iff_ne.mpr c34
                        have H' := Aside0.mk H
                        clear H
                        go_wp2
                        repeat (go_quiet (fail); try go_wp2)
                        go_meet
                        case rel => exact ⟨_, (true), (by first | rfl | (simp; done) | (simp [*]; done)), H', ⟨by have := HJ9.out; first | omega | exact Nat.le_refl _⟩, ⟨by (with_reducible repeat (first | apply Kd.R_alloc | apply Kd.R_drewN | apply Kd.R_drew)); exact HO172.out⟩, ⟨by repeat (first | (with_reducible first | exact HB.out | apply below_alloc | apply pw_below_drewN | apply below_drew1) | exact HB.out)⟩⟩
                    · rw [if_neg c33] at H
                      have c33b0 : (t165 == 0) = false := beq_eq_false_iff_ne.mpr c33
                      have c33b1 : (t165 != 0) = true := bne_iff_ne.mpr c33
                      have H' := Aside0.mk H
                      clear H
                      go_wp2
                      repeat (go_quiet (fail); try go_wp2)
                      go_meet
                      case rel => exact ⟨_, (true), (by first | rfl | (simp; done) | (simp [*]; done)), H', ⟨by have := HJ9.out; first | omega | exact Nat.le_refl _⟩, ⟨by (with_reducible repeat (first | apply Kd.R_alloc | apply Kd.R_drewN | apply Kd.R_drew)); exact HO172.out⟩, ⟨by repeat (first | (with_reducible first | exact HB.out | apply below_alloc | apply pw_below_drewN | apply below_drew1) | exact HB.out)⟩⟩
                  · rw [if_neg c32] at H
                    have c32b0 : (t162 == 0) = false := beq_eq_false_iff_ne.mpr c32
                    have c32b1 : (t162 != 0) = true := bne_iff_ne.mpr c32
                    have H' := Aside0.mk H
                    clear H
                    go_wp2
                    repeat (go_quiet (fail); try go_wp2)
                    go_meet
                    case rel => exact ⟨_, (true), (by first | rfl | (simp; done) | (simp [*]; done)), H', ⟨by have := HJ9.out; first | omega | exact Nat.le_refl _⟩, ⟨by (with_reducible repeat (first | apply Kd.R_alloc | apply Kd.R_drewN | apply Kd.R_drew)); exact HO172.out⟩, ⟨by repeat (first | (with_reducible first | exact HB.out | apply below_alloc | apply pw_below_drewN | apply below_drew1) | exact HB.out)⟩⟩
                · rw [if_neg c31] at H
                  have c31b0 : (t159 == 0) = false := beq_eq_false_iff_ne.mpr c31
                  have c31b1 : (t159 != 0) = true := bne_iff_ne.mpr c31
                  (first | rw [c31b0] | (simp only [i64_w, i32_w]; rw [c31b0]) | skip)
                  have H' := Aside0.mk H
                  clear H
                  go_wp2
                  repeat (go_quiet (fail); try go_wp2)
                  go_meet
                  case rel => exact ⟨_, (true), (by first | rfl | (simp; done) | (simp [*]; done)), H', ⟨by have := HJ9.out; first | omega | exact Nat.le_refl _⟩, ⟨by (with_reducible repeat (first | apply Kd.R_alloc | apply Kd.R_drewN | apply Kd.R_drew)); exact HO172.out⟩, ⟨by repeat (first | (with_reducible first | exact HB.out | apply below_alloc | apply pw_below_drewN | apply below_drew1) | exact HB.out)⟩⟩
              case rest =>
                clear HC26
                try clear c1
                try clear c2
                try clear p2
                try clear c3
                try clear c5
                try clear c16
                try clear c16b0
                try clear c16b1
                try clear c17
                try clear c17b0
                try clear c17b1
                try clear c18
                try clear c18b0
                try clear c18b1
                try clear c19
                try clear c20
                try clear c20b0
                try clear c20b1
                try clear c20b2
                try clear c21
                try clear c21b0
                try clear c21b1
                try clear c21b2
                try clear c31
                try clear c31b0
                try clear c31b1
                try clear c32
                try clear c32b0
                try clear c32b1
                try clear c33
                try clear c33b0
                try clear c33b1
                try clear c34
                try clear c34b0
                try clear c34b1
                try clear c35
                try clear c35b0
                try clear c35b1
                try clear c36
                try clear c36b0
                try clear c36b1
                try clear c37
                try clear c37b0
                try clear c37b1
                try clear c39
                try clear p2
                obtain ⟨kq, x131_25, rfl, HA, HJ25, HO_24, HB⟩ := hcut
                cases kq with
                | zero => exact absurd HA.out (by simp [bellmantop_TopFramed.j1])
                | succ kj25 =>
                  have H := HA.out
                  clear HA
                  simp only [bellmantop_TopFramed.j1] at H
                  by_cases c43 : x131_25 = true
                  · subst c43
                    have H1 : (some false) = some r := by rw [if_pos rfl] at H; exact H
                    clear H
                    have H := H1
                    clear H1
                    obtain rfl := Option.some.inj H
                    go_wp2
                    repeat (go_quiet (fail); try go_wp2)
                    go_ret
                    exact ⟨by first | rfl | (simp [errW_none, errW_some] <;> rfl) | (simp [*, errW_none, errW_some] <;> rfl), by repeat (first | (with_reducible first | exact HB.out | apply below_alloc | apply pw_below_drewN | apply below_drew1) | exact HB.out)⟩
                  · replace c43 := Bool.eq_false_iff.mpr c43
                    subst c43
                    have H1 : (bellmantop_TopFramed.l0 kj25 l1 a2 t153 t155 t168 (l1.length : Int) 0) = some r := by rw [if_neg (show ¬ (false = true) by decide)] at H; exact H
                    clear H
                    have H := H1
                    clear H1
                    have H' := Aside0.mk H
                    clear H
                    go_wp2
                    repeat (go_quiet (fail); try go_wp2)
                    go_loopg [134] kj25 (fun kq v134 w' => ∃ (x134_3 : Int), v134 = .int .i64 x134_3 ∧ Aside0 (bellmantop_TopFramed.l0 kq l1 a2 t153 t155 t168 (l1.length : Int) x134_3 = some r) ∧ Aside0 (kq ≤ kj25) ∧ Aside0 (Kd.R (Kd.int .i64) 2 w' w.heap.size (fun _ => True) v171 t168) ∧ Aside0 (Below w.heap.size w w'))
                    case atStart => exact ⟨(0), (by first | rfl | (simp; done) | (simp [*]; done)), H', ⟨Nat.le_refl _⟩, ⟨by (with_reducible repeat (first | apply Kd.R_alloc | apply Kd.R_drewN | apply Kd.R_drew)); exact HO_24.out⟩, ⟨by repeat (first | (with_reducible first | exact HB.out | apply below_alloc | apply pw_below_drewN | apply below_drew1) | exact HB.out)⟩⟩
                    case round =>
                      clear H'
                      try clear c1
                      try clear c2
                      try clear p2
                      try clear c3
                      try clear c4
                      try clear c5
                      try clear c16
                      try clear c16b0
                      try clear c16b1
                      try clear c17
                      try clear c17b0
                      try clear c17b1
                      try clear c18
                      try clear c18b0
                      try clear c18b1
                      try clear c19
                      try clear c20
                      try clear c20b0
                      try clear c20b1
                      try clear c20b2
                      try clear c21
                      try clear c21b0
                      try clear c21b1
                      try clear c21b2
                      try clear c31
                      try clear c31b0
                      try clear c31b1
                      try clear c32
                      try clear c32b0
                      try clear c32b1
                      try clear c33
                      try clear c33b0
                      try clear c33b1
                      try clear c34
                      try clear c34b0
                      try clear c34b1
                      try clear c35
                      try clear c35b0
                      try clear c35b1
                      try clear c36
                      try clear c36b0
                      try clear c36b1
                      try clear c37
                      try clear c37b0
                      try clear c37b1
                      try clear c39
                      try clear c43
                      try clear p2
                      obtain ⟨x134_3, rfl, HA, HK3, HO_24, HB⟩ := hrel
                      cases gk with
                      | zero => exact absurd HA.out (by simp [bellmantop_TopFramed.l0])
                      | succ k3 =>
                        have H := HA.out
                        clear HA
                        simp only [bellmantop_TopFramed.l0] at H
                        by_cases c44 : x134_3 < (l1.length : Int)
                        · rw [if_pos c44] at H
                          have c44b0 : decide (x134_3 < (l1.length : Int)) = true := decide_eq_true c44
                          clear c44
                          by_cases c45 : 0 ≤ x134_3
                          · rw [if_pos c45] at H
                            have c45b0 : decide (0 ≤ x134_3) = true := decide_eq_true c45
                            clear c45
                            by_cases c46 : x134_3 < (t168.length : Int)
                            · rw [if_pos c46] at H
                              have c46b0 : decide (x134_3 < (t168.length : Int)) = true := decide_eq_true c46
                              clear c46
                              by_cases c47 : x134_3 < (l1.length : Int)
                              · rw [if_pos c47] at H
                                have c47b0 : decide (x134_3 < (l1.length : Int)) = true := decide_eq_true c47
                                clear c47
                                by_cases c48 : (rd t168 x134_3) = (rd l1 x134_3)
                                · rw [if_pos c48] at H
                                  have c48b0 : ((rd t168 x134_3) == (rd l1 x134_3)) = true := beq_iff_eq.mpr c48
                                  have c48b1 : ((rd t168 x134_3) != (rd l1 x134_3)) = false := bne_eq_false_iff_eq.mpr c48
                                  clear c48
                                  have H' := Aside0.mk H
                                  clear H
                                  obtain ⟨Ao49, co49, eo49⟩ := Kd.R_slice HO_24.out
                                  subst eo49
                                  have p174 : 0 ≤ (x134_3 : Int) := of_decide_eq_true (by first | (with_reducible assumption) | assumption)
                                  have q174 : x134_3 < (t168.length : Int) := of_decide_eq_true (by first | (with_reducible assumption) | assumption)
                                  obtain ⟨ad174, e174, hx174_0⟩ := Kd.at_int (Kd.R_reads' HO_24.out).2.2 x134_3 p174 q174
                                  cases e174
                                  replace p174 := eq_true p174
                                  replace q174 := eq_true q174
                                  have p175 : 0 ≤ (x134_3 : Int) := of_decide_eq_true (by first | (with_reducible assumption) | assumption)
                                  have q175 : x134_3 < (l1.length : Int) := of_decide_eq_true (by first | (with_reducible assumption) | assumption)
                                  obtain ⟨ad175, e175, hx175_0⟩ := Kd.at_int HR1.out x134_3 p175 q175
                                  cases e175
                                  replace hx175_0 := (HB.out.cell (World.block_lt_of_cell? w _ hx175_0)).trans hx175_0
                                  replace p175 := eq_true p175
                                  replace q175 := eq_true q175
                                  go_wp2
                                  repeat (go_quiet (fail); try go_wp2)
                                  go_roundg k3
                                  case measure => have := HJ9.out; have := HJ25.out; have := HK3.out; omega
                                  case rel => exact ⟨(wrap64 (x134_3 + 1)), (by first | rfl | (simp; done) | (simp [*]; done)), H', ⟨by have := HJ9.out; have := HJ25.out; have := HK3.out; omega⟩, ⟨by (with_reducible repeat (first | apply Kd.R_alloc | apply Kd.R_drewN | apply Kd.R_drew)); exact HO_24.out⟩, ⟨by repeat (first | (with_reducible first | exact HB.out | apply below_alloc | apply pw_below_drewN | apply below_drew1) | exact HB.out)⟩⟩
                                · rw [if_neg c48] at H
                                  have c48b0 : ((rd t168 x134_3) == (rd l1 x134_3)) = false := beq_eq_false_iff_ne.mpr c48
                                  have c48b1 : ((rd t168 x134_3) != (rd l1 x134_3)) = true := bne_iff_ne.mpr c48
                                  obtain rfl := Option.some.inj H
                                  obtain ⟨Ao50, co50, eo50⟩ := Kd.R_slice HO_24.out
                                  subst eo50
                                  have p174 : 0 ≤ (x134_3 : Int) := of_decide_eq_true (by first | (with_reducible assumption) | assumption)
                                  have q174 : x134_3 < (t168.length : Int) := of_decide_eq_true (by first | (with_reducible assumption) | assumption)
                                  obtain ⟨ad174, e174, hx174_0⟩ := Kd.at_int (Kd.R_reads' HO_24.out).2.2 x134_3 p174 q174
                                  cases e174
                                  replace p174 := eq_true p174
                                  replace q174 := eq_true q174
                                  have p175 : 0 ≤ (x134_3 : Int) := of_decide_eq_true (by first | (with_reducible assumption) | assumption)
                                  have q175 : x134_3 < (l1.length : Int) := of_decide_eq_true (by first | (with_reducible assumption) | assumption)
                                  obtain ⟨ad175, e175, hx175_0⟩ := Kd.at_int HR1.out x134_3 p175 q175
                                  cases e175
                                  replace hx175_0 := (HB.out.cell (World.block_lt_of_cell? w _ hx175_0)).trans hx175_0
                                  replace p175 := eq_true p175
                                  replace q175 := eq_true q175
                                  go_wp2
                                  repeat (go_quiet (fail); try go_wp2)
                                  go_ret
                                  exact ⟨by first | rfl | (simp [errW_none, errW_some] <;> rfl) | (simp [*, errW_none, errW_some] <;> rfl), by repeat (first | (with_reducible first | exact HB.out | apply below_alloc | apply pw_below_drewN | apply below_drew1) | exact HB.out)⟩
                              · rw [if_neg c47] at H
                                exact absurd H (by simp)
                            · rw [if_neg c46] at H
                              exact absurd H (by simp)
                          · rw [if_neg c45] at H
                            exact absurd H (by simp)
                        · rw [if_neg c44] at H
                          have c44b0 : decide (x134_3 < (l1.length : Int)) = false := decide_eq_false c44
                          clear c44
                          obtain ⟨y176, hy176⟩ : ∃ y_ : List ByteArray, y_ = (([t153, t155, a2] : List ByteArray)) := ⟨_, rfl⟩
                          replace H : ((sum_Fold.f y176).bind fun t179 => ((sum_Of.f t153).bind fun t180 => (if t155.size + a2.size ≤ 9223372036854775807 then ((sum_On.f t180 (t155 ++ a2)).bind fun t181 => (some (t179 == t181))) else (none)))) = some r := by first | (rw [hy176]; with_reducible exact H) | (have H2_ := (Option.bind_some _ _).symm.trans H; rw [hy176]; with_reducible exact H2_) | (have H2_ := (Option.bind_some _ _).symm.trans H; with_reducible exact H2_) | with_reducible exact H | (rw [hy176]; exact H) | exact H
                          have Ny176 := Aside0.mk hy176
                          clear hy176
                          replace H := Option.bind_eq_some_iff.mp H
                          obtain ⟨t179, A510, H⟩ := H
                          replace H : ((sum_Of.f t153).bind fun t180 => (if t155.size + a2.size ≤ 9223372036854775807 then ((sum_On.f t180 (t155 ++ a2)).bind fun t181 => (some (t179 == t181))) else (none))) = some r := H
                          have A51 := Aside0.mk A510
                          clear A510
                          replace H := Option.bind_eq_some_iff.mp H
                          obtain ⟨t180, A520, H⟩ := H
                          replace H : (if t155.size + a2.size ≤ 9223372036854775807 then ((sum_On.f t180 (t155 ++ a2)).bind fun t181 => (some (t179 == t181))) else (none)) = some r := H
                          have A52 := Aside0.mk A520
                          clear A520
                          by_cases c53 : t155.size + a2.size ≤ 9223372036854775807
                          · rw [if_pos c53] at H
                            have c53b0 := eq_true c53
                            have c53b1 : decide (t155.size + a2.size ≤ 9223372036854775807) = true := decide_eq_true c53
                            try have c53b2 : (9223372036854775807 < t155.size + a2.size) = False := eq_false (Nat.not_lt.2 c53)
                            replace H := Option.bind_eq_some_iff.mp H
                            obtain ⟨t181, A540, H⟩ := H
                            replace H : (some (t179 == t181)) = some r := H
                            have A54 := Aside0.mk A540
                            clear A540
                            obtain rfl := Option.some.inj H
                            go_wp2_with (first | ((with_reducible refine gate_dst (N := 150) rfl ?_); (try (refine gate_guard (by rfl) ?_; dsimp only)); refine Kd.R_lit Kd.string _ 9 ?hg (N := 150) ?hd (xs := ([t153, t155, a2] : List ByteArray)) (inner := [.string t153, .string t155, .string a2]) (ok := fun _ => True) (okp := fun _ => True) ?hr ?hp (fun _ hk => hk) trivial (Below.refl _ _) (Nat.le_refl _) (by simp) ?_; (case hd => rfl); (case hg => rfl); (case hr => first | (go_simp; done) | (go_simp; rfl)); (case hp => exact (Reps.one (show Kd.M Kd.string _ _ _ t153 [.string t153] from rfl) (Reps.one (show Kd.M Kd.string _ _ _ t155 [.string t155] from rfl) (Reps.one (show Kd.M Kd.string _ _ _ a2 [.string a2] from rfl) (Reps.none _ _))))); intro v177 w55 ho56 hb hg_ hnew_; clear hg_ hnew_; (first | rw [← Ny176.out] at ho56 | (simp only [Int.reduceToNat] at ho56; rw [← Ny176.out] at ho56)); have n0_ := Aside0.mk (Kd.R_below (by (with_reducible repeat (first | apply Kd.R_alloc | apply Kd.R_drewN | apply Kd.R_drew)); exact HO_24.out) hb); have n1_ := Aside0.mk (Kd.R_lower ho56 (below_size (by repeat (first | (with_reducible first | exact HB.out | apply below_alloc | apply pw_below_drewN | apply below_drew1) | exact HB.out)))); have n2_ := Aside0.mk (below_step (by repeat (first | (with_reducible first | exact HB.out | apply below_alloc | apply pw_below_drewN | apply below_drew1) | exact HB.out)) hb); clear HO_24; clear HB; have HO_24 := n0_; have HO178 := n1_; have HB := n2_; clear n0_ n1_ n2_; clear hb ho56; obtain ⟨Ao57, co57, eo57⟩ := Kd.R_slice HO178.out; subst eo57) | (go_at_call 12; (with_reducible refine (sum_Fold.calls _ _ y176 t179 _ ?side1 ?side2 A51.out).mono ?_); (case side1 => repeat (first | exact (Kd.R_reads' HO178.out).2.2 | (with_reducible refine Kd.C_alloc ?_ _) | (with_reducible refine Kd.C_drewN ?_ _) | (with_reducible refine Kd.C_drew ?_))); (case side2 => exact (Kd.R_reads' HO178.out).2.1); rintro e w58 ⟨rfl, hb⟩; have n0_ := Aside0.mk (Kd.R_below (by (with_reducible repeat (first | apply Kd.R_alloc | apply Kd.R_drewN | apply Kd.R_drew)); exact HO_24.out) hb); have n1_ := Aside0.mk (Kd.R_below (by (with_reducible repeat (first | apply Kd.R_alloc | apply Kd.R_drewN | apply Kd.R_drew)); exact HO178.out) hb); have n2_ := Aside0.mk (below_step (by repeat (first | (with_reducible first | exact HB.out | apply below_alloc | apply pw_below_drewN | apply below_drew1) | exact HB.out)) hb); clear HO_24; clear HO178; clear HB; have HO_24 := n0_; have HO178 := n1_; have HB := n2_; clear n0_ n1_ n2_; (try clear hb); (try clear hb2); (try clear hk); (try clear hi)) | (go_at_call 14; (with_reducible refine (sum_Of.calls t153 t180 _ A52.out).mono ?_); rintro e w59 ⟨rfl, hb⟩; have n0_ := Aside0.mk (Kd.R_below (by (with_reducible repeat (first | apply Kd.R_alloc | apply Kd.R_drewN | apply Kd.R_drew)); exact HO_24.out) hb); have n1_ := Aside0.mk (Kd.R_below (by (with_reducible repeat (first | apply Kd.R_alloc | apply Kd.R_drewN | apply Kd.R_drew)); exact HO178.out) hb); have n2_ := Aside0.mk (below_step (by repeat (first | (with_reducible first | exact HB.out | apply below_alloc | apply pw_below_drewN | apply below_drew1) | exact HB.out)) hb); clear HO_24; clear HO178; clear HB; have HO_24 := n0_; have HO178 := n1_; have HB := n2_; clear n0_ n1_ n2_; (try clear hb); (try clear hb2); (try clear hk); (try clear hi)) | (go_at_call 13; (with_reducible refine (sum_On.calls t180 (t155 ++ a2) t181 _ A54.out).mono ?_); rintro e w60 ⟨rfl, hb⟩; have n0_ := Aside0.mk (Kd.R_below (by (with_reducible repeat (first | apply Kd.R_alloc | apply Kd.R_drewN | apply Kd.R_drew)); exact HO_24.out) hb); have n1_ := Aside0.mk (Kd.R_below (by (with_reducible repeat (first | apply Kd.R_alloc | apply Kd.R_drewN | apply Kd.R_drew)); exact HO178.out) hb); have n2_ := Aside0.mk (below_step (by repeat (first | (with_reducible first | exact HB.out | apply below_alloc | apply pw_below_drewN | apply below_drew1) | exact HB.out)) hb); clear HO_24; clear HO178; clear HB; have HO_24 := n0_; have HO178 := n1_; have HB := n2_; clear n0_ n1_ n2_; (try clear hb); (try clear hb2); (try clear hk); (try clear hi)))
                            repeat (go_quiet (first | ((with_reducible refine gate_dst (N := 150) rfl ?_); (try (refine gate_guard (by rfl) ?_; dsimp only)); refine Kd.R_lit Kd.string _ 9 ?hg (N := 150) ?hd (xs := ([t153, t155, a2] : List ByteArray)) (inner := [.string t153, .string t155, .string a2]) (ok := fun _ => True) (okp := fun _ => True) ?hr ?hp (fun _ hk => hk) trivial (Below.refl _ _) (Nat.le_refl _) (by simp) ?_; (case hd => rfl); (case hg => rfl); (case hr => first | (go_simp; done) | (go_simp; rfl)); (case hp => exact (Reps.one (show Kd.M Kd.string _ _ _ t153 [.string t153] from rfl) (Reps.one (show Kd.M Kd.string _ _ _ t155 [.string t155] from rfl) (Reps.one (show Kd.M Kd.string _ _ _ a2 [.string a2] from rfl) (Reps.none _ _))))); intro v177 w55 ho56 hb hg_ hnew_; clear hg_ hnew_; (first | rw [← Ny176.out] at ho56 | (simp only [Int.reduceToNat] at ho56; rw [← Ny176.out] at ho56)); have n0_ := Aside0.mk (Kd.R_below (by (with_reducible repeat (first | apply Kd.R_alloc | apply Kd.R_drewN | apply Kd.R_drew)); exact HO_24.out) hb); have n1_ := Aside0.mk (Kd.R_lower ho56 (below_size (by repeat (first | (with_reducible first | exact HB.out | apply below_alloc | apply pw_below_drewN | apply below_drew1) | exact HB.out)))); have n2_ := Aside0.mk (below_step (by repeat (first | (with_reducible first | exact HB.out | apply below_alloc | apply pw_below_drewN | apply below_drew1) | exact HB.out)) hb); clear HO_24; clear HB; have HO_24 := n0_; have HO178 := n1_; have HB := n2_; clear n0_ n1_ n2_; clear hb ho56; obtain ⟨Ao57, co57, eo57⟩ := Kd.R_slice HO178.out; subst eo57) | (go_at_call 12; (with_reducible refine (sum_Fold.calls _ _ y176 t179 _ ?side1 ?side2 A51.out).mono ?_); (case side1 => repeat (first | exact (Kd.R_reads' HO178.out).2.2 | (with_reducible refine Kd.C_alloc ?_ _) | (with_reducible refine Kd.C_drewN ?_ _) | (with_reducible refine Kd.C_drew ?_))); (case side2 => exact (Kd.R_reads' HO178.out).2.1); rintro e w58 ⟨rfl, hb⟩; have n0_ := Aside0.mk (Kd.R_below (by (with_reducible repeat (first | apply Kd.R_alloc | apply Kd.R_drewN | apply Kd.R_drew)); exact HO_24.out) hb); have n1_ := Aside0.mk (Kd.R_below (by (with_reducible repeat (first | apply Kd.R_alloc | apply Kd.R_drewN | apply Kd.R_drew)); exact HO178.out) hb); have n2_ := Aside0.mk (below_step (by repeat (first | (with_reducible first | exact HB.out | apply below_alloc | apply pw_below_drewN | apply below_drew1) | exact HB.out)) hb); clear HO_24; clear HO178; clear HB; have HO_24 := n0_; have HO178 := n1_; have HB := n2_; clear n0_ n1_ n2_; (try clear hb); (try clear hb2); (try clear hk); (try clear hi)) | (go_at_call 14; (with_reducible refine (sum_Of.calls t153 t180 _ A52.out).mono ?_); rintro e w59 ⟨rfl, hb⟩; have n0_ := Aside0.mk (Kd.R_below (by (with_reducible repeat (first | apply Kd.R_alloc | apply Kd.R_drewN | apply Kd.R_drew)); exact HO_24.out) hb); have n1_ := Aside0.mk (Kd.R_below (by (with_reducible repeat (first | apply Kd.R_alloc | apply Kd.R_drewN | apply Kd.R_drew)); exact HO178.out) hb); have n2_ := Aside0.mk (below_step (by repeat (first | (with_reducible first | exact HB.out | apply below_alloc | apply pw_below_drewN | apply below_drew1) | exact HB.out)) hb); clear HO_24; clear HO178; clear HB; have HO_24 := n0_; have HO178 := n1_; have HB := n2_; clear n0_ n1_ n2_; (try clear hb); (try clear hb2); (try clear hk); (try clear hi)) | (go_at_call 13; (with_reducible refine (sum_On.calls t180 (t155 ++ a2) t181 _ A54.out).mono ?_); rintro e w60 ⟨rfl, hb⟩; have n0_ := Aside0.mk (Kd.R_below (by (with_reducible repeat (first | apply Kd.R_alloc | apply Kd.R_drewN | apply Kd.R_drew)); exact HO_24.out) hb); have n1_ := Aside0.mk (Kd.R_below (by (with_reducible repeat (first | apply Kd.R_alloc | apply Kd.R_drewN | apply Kd.R_drew)); exact HO178.out) hb); have n2_ := Aside0.mk (below_step (by repeat (first | (with_reducible first | exact HB.out | apply below_alloc | apply pw_below_drewN | apply below_drew1) | exact HB.out)) hb); clear HO_24; clear HO178; clear HB; have HO_24 := n0_; have HO178 := n1_; have HB := n2_; clear n0_ n1_ n2_; (try clear hb); (try clear hb2); (try clear hk); (try clear hi))); try go_wp2_with (first | ((with_reducible refine gate_dst (N := 150) rfl ?_); (try (refine gate_guard (by rfl) ?_; dsimp only)); refine Kd.R_lit Kd.string _ 9 ?hg (N := 150) ?hd (xs := ([t153, t155, a2] : List ByteArray)) (inner := [.string t153, .string t155, .string a2]) (ok := fun _ => True) (okp := fun _ => True) ?hr ?hp (fun _ hk => hk) trivial (Below.refl _ _) (Nat.le_refl _) (by simp) ?_; (case hd => rfl); (case hg => rfl); (case hr => first | (go_simp; done) | (go_simp; rfl)); (case hp => exact (Reps.one (show Kd.M Kd.string _ _ _ t153 [.string t153] from rfl) (Reps.one (show Kd.M Kd.string _ _ _ t155 [.string t155] from rfl) (Reps.one (show Kd.M Kd.string _ _ _ a2 [.string a2] from rfl) (Reps.none _ _))))); intro v177 w55 ho56 hb hg_ hnew_; clear hg_ hnew_; (first | rw [← Ny176.out] at ho56 | (simp only [Int.reduceToNat] at ho56; rw [← Ny176.out] at ho56)); have n0_ := Aside0.mk (Kd.R_below (by (with_reducible repeat (first | apply Kd.R_alloc | apply Kd.R_drewN | apply Kd.R_drew)); exact HO_24.out) hb); have n1_ := Aside0.mk (Kd.R_lower ho56 (below_size (by repeat (first | (with_reducible first | exact HB.out | apply below_alloc | apply pw_below_drewN | apply below_drew1) | exact HB.out)))); have n2_ := Aside0.mk (below_step (by repeat (first | (with_reducible first | exact HB.out | apply below_alloc | apply pw_below_drewN | apply below_drew1) | exact HB.out)) hb); clear HO_24; clear HB; have HO_24 := n0_; have HO178 := n1_; have HB := n2_; clear n0_ n1_ n2_; clear hb ho56; obtain ⟨Ao57, co57, eo57⟩ := Kd.R_slice HO178.out; subst eo57) | (go_at_call 12; (with_reducible refine (sum_Fold.calls _ _ y176 t179 _ ?side1 ?side2 A51.out).mono ?_); (case side1 => repeat (first | exact (Kd.R_reads' HO178.out).2.2 | (with_reducible refine Kd.C_alloc ?_ _) | (with_reducible refine Kd.C_drewN ?_ _) | (with_reducible refine Kd.C_drew ?_))); (case side2 => exact (Kd.R_reads' HO178.out).2.1); rintro e w58 ⟨rfl, hb⟩; have n0_ := Aside0.mk (Kd.R_below (by (with_reducible repeat (first | apply Kd.R_alloc | apply Kd.R_drewN | apply Kd.R_drew)); exact HO_24.out) hb); have n1_ := Aside0.mk (Kd.R_below (by (with_reducible repeat (first | apply Kd.R_alloc | apply Kd.R_drewN | apply Kd.R_drew)); exact HO178.out) hb); have n2_ := Aside0.mk (below_step (by repeat (first | (with_reducible first | exact HB.out | apply below_alloc | apply pw_below_drewN | apply below_drew1) | exact HB.out)) hb); clear HO_24; clear HO178; clear HB; have HO_24 := n0_; have HO178 := n1_; have HB := n2_; clear n0_ n1_ n2_; (try clear hb); (try clear hb2); (try clear hk); (try clear hi)) | (go_at_call 14; (with_reducible refine (sum_Of.calls t153 t180 _ A52.out).mono ?_); rintro e w59 ⟨rfl, hb⟩; have n0_ := Aside0.mk (Kd.R_below (by (with_reducible repeat (first | apply Kd.R_alloc | apply Kd.R_drewN | apply Kd.R_drew)); exact HO_24.out) hb); have n1_ := Aside0.mk (Kd.R_below (by (with_reducible repeat (first | apply Kd.R_alloc | apply Kd.R_drewN | apply Kd.R_drew)); exact HO178.out) hb); have n2_ := Aside0.mk (below_step (by repeat (first | (with_reducible first | exact HB.out | apply below_alloc | apply pw_below_drewN | apply below_drew1) | exact HB.out)) hb); clear HO_24; clear HO178; clear HB; have HO_24 := n0_; have HO178 := n1_; have HB := n2_; clear n0_ n1_ n2_; (try clear hb); (try clear hb2); (try clear hk); (try clear hi)) | (go_at_call 13; (with_reducible refine (sum_On.calls t180 (t155 ++ a2) t181 _ A54.out).mono ?_); rintro e w60 ⟨rfl, hb⟩; have n0_ := Aside0.mk (Kd.R_below (by (with_reducible repeat (first | apply Kd.R_alloc | apply Kd.R_drewN | apply Kd.R_drew)); exact HO_24.out) hb); have n1_ := Aside0.mk (Kd.R_below (by (with_reducible repeat (first | apply Kd.R_alloc | apply Kd.R_drewN | apply Kd.R_drew)); exact HO178.out) hb); have n2_ := Aside0.mk (below_step (by repeat (first | (with_reducible first | exact HB.out | apply below_alloc | apply pw_below_drewN | apply below_drew1) | exact HB.out)) hb); clear HO_24; clear HO178; clear HB; have HO_24 := n0_; have HO178 := n1_; have HB := n2_; clear n0_ n1_ n2_; (try clear hb); (try clear hb2); (try clear hk); (try clear hi))))
                            go_ret
                            exact ⟨by first | rfl | (simp [errW_none, errW_some] <;> rfl) | (simp [*, errW_none, errW_some] <;> rfl), by repeat (first | (with_reducible first | exact HB.out | apply below_alloc | apply pw_below_drewN | apply below_drew1) | exact HB.out)⟩
                          · rw [if_neg c53] at H
                            exact absurd H (by simp)
            · rw [if_neg c21] at H
              exact absurd H (by simp)
          · rw [if_neg c20] at H
            exact absurd H (by simp)
  · replace c5 := Bool.eq_false_iff.mpr c5
    subst c5
    have H1 : (some false) = some r := by rw [if_neg (show ¬ (false = true) by decide)] at H; exact H
    clear H
    have H := H1
    clear H1
    obtain rfl := Option.some.inj H
    go_enter Try.func3, Try.ntmps3
    go_wp2_with (first | (go_at_call 4; (with_reducible refine (bellmantop_begins.calls  false _ A4.out).mono ?_); rintro e w61 ⟨rfl, hb⟩; have n0_ := Aside0.mk (below_step (by repeat (first | (with_reducible first | exact HB.out | apply below_alloc | apply pw_below_drewN | apply below_drew1) | exact HB.out)) hb); clear HB; have HB := n0_; clear n0_; (try clear hb); (try clear hb2); (try clear hk); (try clear hi)))
    repeat (go_quiet (first | (go_at_call 4; (with_reducible refine (bellmantop_begins.calls  false _ A4.out).mono ?_); rintro e w61 ⟨rfl, hb⟩; have n0_ := Aside0.mk (below_step (by repeat (first | (with_reducible first | exact HB.out | apply below_alloc | apply pw_below_drewN | apply below_drew1) | exact HB.out)) hb); clear HB; have HB := n0_; clear n0_; (try clear hb); (try clear hb2); (try clear hk); (try clear hi))); try go_wp2_with (first | (go_at_call 4; (with_reducible refine (bellmantop_begins.calls  false _ A4.out).mono ?_); rintro e w61 ⟨rfl, hb⟩; have n0_ := Aside0.mk (below_step (by repeat (first | (with_reducible first | exact HB.out | apply below_alloc | apply pw_below_drewN | apply below_drew1) | exact HB.out)) hb); clear HB; have HB := n0_; clear n0_; (try clear hb); (try clear hb2); (try clear hk); (try clear hi))))
    go_ret
    exact ⟨by first | rfl | (simp [errW_none, errW_some] <;> rfl) | (simp [*, errW_none, errW_some] <;> rfl), by repeat (first | (with_reducible first | exact HB.out | apply below_alloc | apply pw_below_drewN | apply below_drew1) | exact HB.out)⟩

end Go.Proofs.Ytddjklpkhdhfkaa.XT
