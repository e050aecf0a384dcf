-- by px.py, a program of this session, over the kit's printer: functions given by hand stand beside printed ones. Lean checks all of it.
import Derived.Test.YthlnjbaichkipaaDoorZXR0
import Derived.Test.YthlnjbaichkipaaDoorZXR5
import Derived.Test.YthlnjbaichkipaaDoorZXR6
import Derived.Test.YthlnjbaichkipaaDoorZXR9
import Derived.Test.YthlnjbaichkipaaDoorZXR11
import Derived.Test.YthlnjbaichkipaaDoorZXR14
namespace Go.Proofs.YthlnjbaichkipaaDoor.XR
open Go.RowKit Go.Proofs.YthlnjbaichkipaaDoorW.PrintWords Go.Proofs.YthlnjbaichkipaaDoorW.PrintLast Go.Proofs.YthlnjbaichkipaaDoorW.PrintMore
attribute [local go_sem] max2_int min2_int max_two min_two max_three min_three max_four min_four   -- for this text's walks alone
set_option linter.unusedVariables false
set_option linter.unusedSimpArgs false

mutual
def bellmanlaw04_TrailTorn.j2 : Nat → ByteArray → Int → List Int → Int → List ByteArray → List ByteArray → List (S60) → Int → Bool → Option (Bool)
 | 0, _, _, _, _, _, _, _, _, _ => none
 | k + 1, x1, x2, x3, x11, x12, x283000, x283001, x283002, x283003 => (block_Sync.f x283000 x283001 x283002 x283003).bind fun bt298 => ((trail_Append.f bt298.1 bt298.2.1 x2 bt298.2.2.2.1 0 64 x11 x1).bind fun bt307 => (if bt307.2.2.2.2.2 = 0 then ((block_Sync.f bt307.1 bt307.2.1 bt307.2.2.1 bt307.2.2.2.1).bind fun bt318 => (bellmanlaw04_TrailTorn.j3 k x1 x3 x11 x12 bt298.2.2.2.2 bt307.2.2.2.2.1 bt318.2.2.2.2 bt318.1 bt318.2.1 bt318.2.2.1 bt318.2.2.2.1)) else (bellmanlaw04_TrailTorn.j3 k x1 x3 x11 x12 bt298.2.2.2.2 bt307.2.2.2.2.1 bt307.2.2.2.2.2 bt307.1 bt307.2.1 bt307.2.2.1 bt307.2.2.2.1)))
def bellmanlaw04_TrailTorn.j3 : Nat → ByteArray → List Int → Int → List ByteArray → Int → Int → Int → List ByteArray → List (S60) → Int → Bool → Option (Bool)
 | 0, _, _, _, _, _, _, _, _, _, _, _ => none
 | k + 1, x1, x3, x11, x12, x18, x20, x21, x318000, x318001, x318002, x318003 => (block_Crash.f x318000 x318001 x318002 x318003 x3).bind fun bt327 => ((trail_Read.f bt327.1 bt327.2.1 bt327.2.2.1 bt327.2.2.2.1 0 64).bind fun bt337 => (if x18 = 0 then (if bt327.2.2.2.2 = 0 then (if bt337.2.2 = 0 then (if 0 ≤ (mn (bt337.1.length : Int) (x12.length : Int)) then (if (mn (bt337.1.length : Int) (x12.length : Int)) ≤ (bt337.1.length : Int) then ((bellmanref01_SameTexts.f k (bt337.1.take ((mn (bt337.1.length : Int) (x12.length : Int)) : Int).toNat) x12).bind fun t347 => (bellmanlaw04_TrailTorn.j4 k x1 x11 x12 x20 x21 bt337.1 bt337.2.1 (!t347))) else (none)) else (none)) else (bellmanlaw04_TrailTorn.j4 k x1 x11 x12 x20 x21 bt337.1 bt337.2.1 true)) else (bellmanlaw04_TrailTorn.j4 k x1 x11 x12 x20 x21 bt337.1 bt337.2.1 true)) else (bellmanlaw04_TrailTorn.j4 k x1 x11 x12 x20 x21 bt337.1 bt337.2.1 true)))
def bellmanlaw04_TrailTorn.j4 : Nat → ByteArray → Int → List ByteArray → Int → Int → List ByteArray → Int → Bool → Option (Bool)
 | 0, _, _, _, _, _, _, _, _ => none
 | k + 1, x1, x11, x12, x20, x21, x24, x25, x121 => if x121 = true then (some false) else (if (x24.length : Int) = (x12.length : Int) then (if x21 = 0 then (some false) else (some (x25 == x11))) else (if (wrap64 ((x24.length : Int) - (x12.length : Int))) = 1 then (if 0 ≤ (x12.length : Int) then (if (x12.length : Int) < (x24.length : Int) then (if (rdOf ByteArray.empty x24 (x12.length : Int)).toList = x1.toList then (if x25 > x11 then (if x21 = 0 then (some (x25 == x20)) else (some true)) else (some false)) else (some false)) else (none)) else (none)) else (some false)))
def bellmanlaw04_TrailTorn.l0 : Nat → ByteArray → Int → List Int → Int → List ByteArray → List ByteArray → Int → Int → List ByteArray → List (S60) → Int → Bool → Option (Bool)
 | 0, _, _, _, _, _, _, _, _, _, _, _, _ => none
 | k + 1, x1, x2, x3, x11, x12, x35, x36, x37, x283000, x283001, x283002, x283003 => if x37 < x36 then (if 0 ≤ x37 then (if x37 < (x35.length : Int) then (if x37 = 6 then (bellmanlaw04_TrailTorn.j1 k x1 x2 x3 x11 x12 (rdOf ByteArray.empty x35 x37) x35 x36 x37 true x283000 x283001 x283002 x283003) else (bellmanlaw04_TrailTorn.j1 k x1 x2 x3 x11 x12 (rdOf ByteArray.empty x35 x37) x35 x36 x37 (decide (((rdOf ByteArray.empty x35 x37).size : Int) > 200)) x283000 x283001 x283002 x283003)) else (none)) else (none)) else (bellmanlaw04_TrailTorn.j2 k x1 x2 x3 x11 x12 x283000 x283001 x283002 x283003)
def bellmanlaw04_TrailTorn.j1 : Nat → ByteArray → Int → List Int → Int → List ByteArray → ByteArray → List ByteArray → Int → Int → Bool → List ByteArray → List (S60) → Int → Bool → Option (Bool)
 | 0, _, _, _, _, _, _, _, _, _, _, _, _, _, _ => none
 | k + 1, x1, x2, x3, x11, x12, x14, x35, x36, x37, x48, x283000, x283001, x283002, x283003 => if x48 = true then (bellmanlaw04_TrailTorn.j2 k x1 x2 x3 x11 x12 x283000 x283001 x283002 x283003) else ((trail_Append.f x283000 x283001 x283002 x283003 0 64 x11 x14).bind fun bt284 => (if bt284.2.2.2.2.2 = 0 then (if x12.length < 8796093022208 then (bellmanlaw04_TrailTorn.l0 k x1 x2 x3 bt284.2.2.2.2.1 (x12 ++ [x14]) x35 x36 (wrap64 (x37 + 1)) bt284.1 bt284.2.1 bt284.2.2.1 bt284.2.2.2.1) else (none)) else (some false)))
end
def bellmanlaw04_TrailTorn.f (k : Nat) (l0 : List ByteArray) (a1 : ByteArray) (a2 : Int) (l3 : List Int) : Option (Bool) := (bellmanlaw04_lives.f).bind fun t272 => (if t272 = true then (if a2 < (-1) then (some true) else ((block_Make.f 64).bind fun bt273 => (bellmanlaw04_TrailTorn.l0 k a1 a2 l3 0 ([] : List ByteArray) l0 (l0.length : Int) 0 bt273.1 bt273.2.1 bt273.2.2.1 bt273.2.2.2.1))) else (none))
theorem bellmanlaw04_TrailTorn.mono_l : ∀ k, (∀ y0 y1 y2 y3 y4 y5 y6 y7 y8, LeO (bellmanlaw04_TrailTorn.j2 k y0 y1 y2 y3 y4 y5 y6 y7 y8) (bellmanlaw04_TrailTorn.j2 (k + 1) y0 y1 y2 y3 y4 y5 y6 y7 y8)) ∧ (∀ y0 y1 y2 y3 y4 y5 y6 y7 y8 y9 y10, LeO (bellmanlaw04_TrailTorn.j3 k y0 y1 y2 y3 y4 y5 y6 y7 y8 y9 y10) (bellmanlaw04_TrailTorn.j3 (k + 1) y0 y1 y2 y3 y4 y5 y6 y7 y8 y9 y10)) ∧ (∀ y0 y1 y2 y3 y4 y5 y6 y7, LeO (bellmanlaw04_TrailTorn.j4 k y0 y1 y2 y3 y4 y5 y6 y7) (bellmanlaw04_TrailTorn.j4 (k + 1) y0 y1 y2 y3 y4 y5 y6 y7)) ∧ (∀ y0 y1 y2 y3 y4 y5 y6 y7 y8 y9 y10 y11, LeO (bellmanlaw04_TrailTorn.l0 k y0 y1 y2 y3 y4 y5 y6 y7 y8 y9 y10 y11) (bellmanlaw04_TrailTorn.l0 (k + 1) y0 y1 y2 y3 y4 y5 y6 y7 y8 y9 y10 y11)) ∧ (∀ y0 y1 y2 y3 y4 y5 y6 y7 y8 y9 y10 y11 y12 y13, LeO (bellmanlaw04_TrailTorn.j1 k y0 y1 y2 y3 y4 y5 y6 y7 y8 y9 y10 y11 y12 y13) (bellmanlaw04_TrailTorn.j1 (k + 1) y0 y1 y2 y3 y4 y5 y6 y7 y8 y9 y10 y11 y12 y13))
 | 0 => ⟨fun _ _ _ _ _ _ _ _ _ r h => by simp [bellmanlaw04_TrailTorn.j2] at h, fun _ _ _ _ _ _ _ _ _ _ _ r h => by simp [bellmanlaw04_TrailTorn.j3] at h, fun _ _ _ _ _ _ _ _ r h => by simp [bellmanlaw04_TrailTorn.j4] at h, fun _ _ _ _ _ _ _ _ _ _ _ _ r h => by simp [bellmanlaw04_TrailTorn.l0] at h, fun _ _ _ _ _ _ _ _ _ _ _ _ _ _ r h => by simp [bellmanlaw04_TrailTorn.j1] at h⟩
 | k + 1 => by
  obtain ⟨ih0, ih1, ih2, ih3, ih4⟩ := bellmanlaw04_TrailTorn.mono_l k
  refine ⟨?_, ?_, ?_, ?_, ?_⟩
  ·intro y0 y1 y2 y3 y4 y5 y6 y7 y8
   unfold bellmanlaw04_TrailTorn.j2
   repeat' first
   | (with_reducible exact ih0 _ _ _ _ _ _ _ _ _)
   | (with_reducible exact ih1 _ _ _ _ _ _ _ _ _ _ _)
   | (with_reducible exact ih2 _ _ _ _ _ _ _ _)
   | (with_reducible exact ih3 _ _ _ _ _ _ _ _ _ _ _ _)
   | (with_reducible exact ih4 _ _ _ _ _ _ _ _ _ _ _ _ _ _)
   | (with_reducible exact bellmanref01_SameTexts.mono _ _ _)
   | (with_reducible exact LeO.refl _)
   | (with_reducible exact LeO.none _)
   | (with_reducible refine LeO.ite ?_ ?_)
   | (with_reducible refine LeO.bind ?_ (fun _ => ?_))
   | exact ih0 _ _ _ _ _ _ _ _ _
   | exact ih1 _ _ _ _ _ _ _ _ _ _ _
   | exact ih2 _ _ _ _ _ _ _ _
   | exact ih3 _ _ _ _ _ _ _ _ _ _ _ _
   | exact ih4 _ _ _ _ _ _ _ _ _ _ _ _ _ _
   | exact bellmanref01_SameTexts.mono _ _ _
   | exact LeO.none _
   | refine LeO.ite ?_ ?_
   | refine LeO.bind ?_ (fun _ => ?_)
  ·intro y0 y1 y2 y3 y4 y5 y6 y7 y8 y9 y10
   unfold bellmanlaw04_TrailTorn.j3
   repeat' first
   | (with_reducible exact ih0 _ _ _ _ _ _ _ _ _)
   | (with_reducible exact ih1 _ _ _ _ _ _ _ _ _ _ _)
   | (with_reducible exact ih2 _ _ _ _ _ _ _ _)
   | (with_reducible exact ih3 _ _ _ _ _ _ _ _ _ _ _ _)
   | (with_reducible exact ih4 _ _ _ _ _ _ _ _ _ _ _ _ _ _)
   | (with_reducible exact bellmanref01_SameTexts.mono _ _ _)
   | (with_reducible exact LeO.refl _)
   | (with_reducible exact LeO.none _)
   | (with_reducible refine LeO.ite ?_ ?_)
   | (with_reducible refine LeO.bind ?_ (fun _ => ?_))
   | exact ih0 _ _ _ _ _ _ _ _ _
   | exact ih1 _ _ _ _ _ _ _ _ _ _ _
   | exact ih2 _ _ _ _ _ _ _ _
   | exact ih3 _ _ _ _ _ _ _ _ _ _ _ _
   | exact ih4 _ _ _ _ _ _ _ _ _ _ _ _ _ _
   | exact bellmanref01_SameTexts.mono _ _ _
   | exact LeO.none _
   | refine LeO.ite ?_ ?_
   | refine LeO.bind ?_ (fun _ => ?_)
  ·intro y0 y1 y2 y3 y4 y5 y6 y7
   unfold bellmanlaw04_TrailTorn.j4
   repeat' first
   | (with_reducible exact ih0 _ _ _ _ _ _ _ _ _)
   | (with_reducible exact ih1 _ _ _ _ _ _ _ _ _ _ _)
   | (with_reducible exact ih2 _ _ _ _ _ _ _ _)
   | (with_reducible exact ih3 _ _ _ _ _ _ _ _ _ _ _ _)
   | (with_reducible exact ih4 _ _ _ _ _ _ _ _ _ _ _ _ _ _)
   | (with_reducible exact bellmanref01_SameTexts.mono _ _ _)
   | (with_reducible exact LeO.refl _)
   | (with_reducible exact LeO.none _)
   | (with_reducible refine LeO.ite ?_ ?_)
   | (with_reducible refine LeO.bind ?_ (fun _ => ?_))
   | exact ih0 _ _ _ _ _ _ _ _ _
   | exact ih1 _ _ _ _ _ _ _ _ _ _ _
   | exact ih2 _ _ _ _ _ _ _ _
   | exact ih3 _ _ _ _ _ _ _ _ _ _ _ _
   | exact ih4 _ _ _ _ _ _ _ _ _ _ _ _ _ _
   | exact bellmanref01_SameTexts.mono _ _ _
   | exact LeO.none _
   | refine LeO.ite ?_ ?_
   | refine LeO.bind ?_ (fun _ => ?_)
  ·intro y0 y1 y2 y3 y4 y5 y6 y7 y8 y9 y10 y11
   unfold bellmanlaw04_TrailTorn.l0
   repeat' first
   | (with_reducible exact ih0 _ _ _ _ _ _ _ _ _)
   | (with_reducible exact ih1 _ _ _ _ _ _ _ _ _ _ _)
   | (with_reducible exact ih2 _ _ _ _ _ _ _ _)
   | (with_reducible exact ih3 _ _ _ _ _ _ _ _ _ _ _ _)
   | (with_reducible exact ih4 _ _ _ _ _ _ _ _ _ _ _ _ _ _)
   | (with_reducible exact bellmanref01_SameTexts.mono _ _ _)
   | (with_reducible exact LeO.refl _)
   | (with_reducible exact LeO.none _)
   | (with_reducible refine LeO.ite ?_ ?_)
   | (with_reducible refine LeO.bind ?_ (fun _ => ?_))
   | exact ih0 _ _ _ _ _ _ _ _ _
   | exact ih1 _ _ _ _ _ _ _ _ _ _ _
   | exact ih2 _ _ _ _ _ _ _ _
   | exact ih3 _ _ _ _ _ _ _ _ _ _ _ _
   | exact ih4 _ _ _ _ _ _ _ _ _ _ _ _ _ _
   | exact bellmanref01_SameTexts.mono _ _ _
   | exact LeO.none _
   | refine LeO.ite ?_ ?_
   | refine LeO.bind ?_ (fun _ => ?_)
  ·intro y0 y1 y2 y3 y4 y5 y6 y7 y8 y9 y10 y11 y12 y13
   unfold bellmanlaw04_TrailTorn.j1
   repeat' first
   | (with_reducible exact ih0 _ _ _ _ _ _ _ _ _)
   | (with_reducible exact ih1 _ _ _ _ _ _ _ _ _ _ _)
   | (with_reducible exact ih2 _ _ _ _ _ _ _ _)
   | (with_reducible exact ih3 _ _ _ _ _ _ _ _ _ _ _ _)
   | (with_reducible exact ih4 _ _ _ _ _ _ _ _ _ _ _ _ _ _)
   | (with_reducible exact bellmanref01_SameTexts.mono _ _ _)
   | (with_reducible exact LeO.refl _)
   | (with_reducible exact LeO.none _)
   | (with_reducible refine LeO.ite ?_ ?_)
   | (with_reducible refine LeO.bind ?_ (fun _ => ?_))
   | exact ih0 _ _ _ _ _ _ _ _ _
   | exact ih1 _ _ _ _ _ _ _ _ _ _ _
   | exact ih2 _ _ _ _ _ _ _ _
   | exact ih3 _ _ _ _ _ _ _ _ _ _ _ _
   | exact ih4 _ _ _ _ _ _ _ _ _ _ _ _ _ _
   | exact bellmanref01_SameTexts.mono _ _ _
   | exact LeO.none _
   | refine LeO.ite ?_ ?_
   | refine LeO.bind ?_ (fun _ => ?_)
theorem bellmanlaw04_TrailTorn.mono : ∀ a0 a1 a2 a3 k, LeO (bellmanlaw04_TrailTorn.f k a0 a1 a2 a3) (bellmanlaw04_TrailTorn.f (k + 1) a0 a1 a2 a3) := by
 intro a0 a1 a2 a3 k
 obtain ⟨ih0, ih1, ih2, ih3, ih4⟩ := bellmanlaw04_TrailTorn.mono_l k
 unfold bellmanlaw04_TrailTorn.f
 repeat' first
   | (with_reducible exact ih0 _ _ _ _ _ _ _ _ _)
   | (with_reducible exact ih1 _ _ _ _ _ _ _ _ _ _ _)
   | (with_reducible exact ih2 _ _ _ _ _ _ _ _)
   | (with_reducible exact ih3 _ _ _ _ _ _ _ _ _ _ _ _)
   | (with_reducible exact ih4 _ _ _ _ _ _ _ _ _ _ _ _ _ _)
   | (with_reducible exact bellmanref01_SameTexts.mono _ _ _)
   | (with_reducible exact LeO.refl _)
   | (with_reducible exact LeO.none _)
   | (with_reducible refine LeO.ite ?_ ?_)
   | (with_reducible refine LeO.bind ?_ (fun _ => ?_))
   | exact ih0 _ _ _ _ _ _ _ _ _
   | exact ih1 _ _ _ _ _ _ _ _ _ _ _
   | exact ih2 _ _ _ _ _ _ _ _
   | exact ih3 _ _ _ _ _ _ _ _ _ _ _ _
   | exact ih4 _ _ _ _ _ _ _ _ _ _ _ _ _ _
   | exact bellmanref01_SameTexts.mono _ _ _
   | exact LeO.none _
   | refine LeO.ite ?_ ?_
   | refine LeO.bind ?_ (fun _ => ?_)
set_option maxHeartbeats 8000000 in
set_option maxRecDepth 100000 in
theorem bellmanlaw04_TrailTorn.calls (k : Nat) (A0 : Option Addr) (c0 : Nat) (l0 : List ByteArray) (a1 : ByteArray) (a2 : Int) (A3 : Option Addr) (c3 : Nat) (l3 : List Int) (r : Bool) (w : World) (hr0 : Kd.C Kd.string w A0 l0.length l0) (hc0 : l0.length ≤ c0) (hr3 : Kd.C (Kd.int .i64) w A3 l3.length l3) (hc3 : l3.length ≤ c3) (h : bellmanlaw04_TrailTorn.f k l0 a1 a2 l3 = some r) :
  Calls Tryd.prog 5 #[.slice A0 l0.length c0, .string a1, .int .i64 a2, .slice A3 l3.length c3] w fun e w' => e = .returned (.bool r) ∧ Below w.heap.size w w' := by
 have hu25 := Tryd.underlying25
 have HR0 := Aside0.mk hr0
 have HC0 := Aside0.mk hc0
 clear hr0 hc0
 have HR3 := Aside0.mk hr3
 have HC3 := Aside0.mk hc3
 clear hr3 hc3
 have HB := Aside0.mk (Below.refl w.heap.size w)
 have H : ((bellmanlaw04_lives.f).bind fun t272 => (if t272 = true then (if a2 < (-1) then (some true) else ((block_Make.f 64).bind fun bt273 => (bellmanlaw04_TrailTorn.l0 k a1 a2 l3 0 ([] : List ByteArray) l0 (l0.length : Int) 0 bt273.1 bt273.2.1 bt273.2.2.1 bt273.2.2.2.1))) else (none))) = some r := h
 clear h
 replace H := Option.bind_eq_some_iff.mp H
 obtain ⟨t272, A50, H⟩ := H
 replace H : (if t272 = true then (if a2 < (-1) then (some true) else ((block_Make.f 64).bind fun bt273 => (bellmanlaw04_TrailTorn.l0 k a1 a2 l3 0 ([] : List ByteArray) l0 (l0.length : Int) 0 bt273.1 bt273.2.1 bt273.2.2.1 bt273.2.2.2.1))) else (none)) = some r := H
 have A5 := Aside0.mk A50
 clear A50
 by_cases c6 : t272 = true
 ·subst c6
  have H1 : (if a2 < (-1) then (some true) else ((block_Make.f 64).bind fun bt273 => (bellmanlaw04_TrailTorn.l0 k a1 a2 l3 0 ([] : List ByteArray) l0 (l0.length : Int) 0 bt273.1 bt273.2.1 bt273.2.2.1 bt273.2.2.2.1))) = some r := by rw [if_pos rfl] at H; exact H
  clear H
  have H := H1
  clear H1
  by_cases c7 : a2 < (-1)
  ·rw [if_pos c7] at H
   have c7b0 : decide (a2 < (-1)) = true := decide_eq_true c7
   clear c7
   obtain rfl := Option.some.inj H
   go_enter Tryd.func5, Tryd.ntmps5
   go_wp2_with (first | ((with_reducible refine gate_callee (f := 7) rfl ?_); refine goesL_ (some 27) rfl rfl Tryd.func7 (by kernel_rfl) rfl #[] rfl (by (try simp only [List.map_toArray, List.map_cons, List.map_nil]); first | done | rfl | (simp only [List.length_drop, List.length_take]; rfl)) ?_; (with_reducible refine (bellmanlaw04_lives.calls  true _ A5.out).mono ?_); rintro e w8 ⟨rfl, hb⟩; refine ⟨_, rfl, ?_⟩; have n0_ := Aside0.mk (below_step (by repeat (first | (with_reducible first | exact HB.out | apply below_alloc | apply pw_below_drewN | apply below_drew1) | exact HB.out)) hb); clear HB; have HB := n0_; clear n0_; (try clear hb); (try clear hb2); (try clear hk); (try clear hi)))
   go_ret
   exact ⟨by first | rfl | (simp [errW_none, errW_some] <;> rfl) | (simp [*, errW_none, errW_some] <;> rfl), by repeat (first | (with_reducible first | exact HB.out | apply below_alloc | apply pw_below_drewN | apply below_drew1) | exact HB.out)⟩
  ·rw [if_neg c7] at H
   have c7b0 : decide (a2 < (-1)) = false := decide_eq_false c7
   clear c7
   replace H := Option.bind_eq_some_iff.mp H
   obtain ⟨⟨t273, t276, t279, t280, t281⟩, A90, H⟩ := H
   replace H : (bellmanlaw04_TrailTorn.l0 k a1 a2 l3 0 ([] : List ByteArray) l0 (l0.length : Int) 0 t273 t276 t279 t280) = some r := H
   have A9 := Aside0.mk A90
   clear A90
   have HC10 := Aside0.mk H
   clear H
   go_enter Tryd.func5, Tryd.ntmps5
   go_upto_block 0 with (first | ((with_reducible refine gate_callee (f := 7) rfl ?_); refine goesL_ (some 27) rfl rfl Tryd.func7 (by kernel_rfl) rfl #[] rfl (by (try simp only [List.map_toArray, List.map_cons, List.map_nil]); first | done | rfl | (simp only [List.length_drop, List.length_take]; rfl)) ?_; (with_reducible refine (bellmanlaw04_lives.calls  true _ A5.out).mono ?_); rintro e w11 ⟨rfl, hb⟩; refine ⟨_, rfl, ?_⟩; have n0_ := Aside0.mk (below_step (by repeat (first | (with_reducible first | exact HB.out | apply below_alloc | apply pw_below_drewN | apply below_drew1) | exact HB.out)) hb); clear HB; have HB := n0_; clear n0_; (try clear hb); (try clear hb2); (try clear hk); (try clear hi)) | ((with_reducible refine gate_callee (f := 14) rfl ?_); refine goesL_ (some 32) rfl rfl Tryd.func14 (by kernel_rfl) rfl #[.int .i64 64] rfl (by (try simp only [List.map_toArray, List.map_cons, List.map_nil]); first | done | rfl | (simp only [List.length_drop, List.length_take]; rfl)) ?_; (with_reducible refine (block_Make.calls 64 t273 t276 t279 t280 t281 _ A9.out).mono ?_); rintro e w12 ⟨v274, v277, rfl, ho0, ho1, hb⟩; refine ⟨_, rfl, ?_⟩; have n0_ := Aside0.mk (Kd.V_lower (Kd.V_mono (ok' := fun k_ => True) ho0 (fun k_ hk_ => trivial)) (below_size (by repeat (first | (with_reducible first | exact HB.out | apply below_alloc | apply pw_below_drewN | apply below_drew1) | exact HB.out)))); have n1_ := Aside0.mk (Kd.V_lower (Kd.V_mono (ok' := fun k_ => True) ho1 (fun k_ hk_ => trivial)) (below_size (by repeat (first | (with_reducible first | exact HB.out | apply below_alloc | apply pw_below_drewN | apply below_drew1) | exact HB.out)))); have n2_ := Aside0.mk (below_step (by repeat (first | (with_reducible first | exact HB.out | apply below_alloc | apply pw_below_drewN | apply below_drew1) | exact HB.out)) hb); clear HB; have HO275 := n0_; have HO278 := n1_; have HB := n2_; clear n0_ n1_ n2_; (try clear hb); (try clear hb2); (try clear hk); (try clear hi); (try clear ho0); (try clear ho1)) | ((with_reducible refine gate_dst (N := 9) rfl ?_); (try (refine gate_guard (by rfl) ?_; dsimp only)); refine box_event ?hg (N := 9) ?hd (cs := #[.slice none 0 0, .slice none 0 0, .int .i64 0, .bool false]) (t := 25) ?hr ?_; (case hd => rfl); (case hg => rfl); (case hr => first | (go_simp; done) | (go_simp; rfl)); intro gb282 hg w13 hbox hb; have n0_ := Aside0.mk (Kd.V_below (Kd.V_elderB (by (with_reducible repeat (first | apply Kd.V_alloc | apply Kd.V_drewN | apply Kd.V_drew)); exact HO275.out) gb282 (Nat.le_of_eq hg.symm)) hb); have n1_ := Aside0.mk (Kd.V_below (Kd.V_elderB (by (with_reducible repeat (first | apply Kd.V_alloc | apply Kd.V_drewN | apply Kd.V_drew)); exact HO278.out) gb282 (Nat.le_of_eq hg.symm)) hb); have n2_ := Aside0.mk (below_step (by repeat (first | (with_reducible first | exact HB.out | apply below_alloc | apply pw_below_drewN | apply below_drew1) | exact HB.out)) hb); have n3_ := Aside0.mk (hbox); have n4_ := Aside0.mk ((by rw [hg]; exact (below_size (by repeat (first | (with_reducible first | exact HB.out | apply below_alloc | apply pw_below_drewN | apply below_drew1) | exact HB.out))) : w.heap.size ≤ gb282)); have n5_ := Aside0.mk ((by rw [hg]; exact (below_size (by repeat (first | (with_reducible first | exact HB.out | apply below_alloc | apply pw_below_drewN | apply below_drew1) | exact HB.out))) : w.heap.size ≤ gb282)); clear HO275; clear HO278; clear HB; have HO275 := n0_; have HO278 := n1_; have HB := n2_; have BK282 := n3_; have GW282 := n4_; have GE282 := n5_; clear n0_ n1_ n2_ n3_ n4_ n5_; clear hb hbox hg; obtain ⟨Ao14, co14, eo14⟩ := Kd.V_slice HO275.out; subst eo14; have hcz15_0 : w13.cell? ⟨gb282, 0, none⟩ = some (.slice none 0 0) := (blk_cell BK282.out 0).trans rfl; have hcz15_1 : w13.cell? ⟨gb282, 1, none⟩ = some (.slice none 0 0) := (blk_cell BK282.out 1).trans rfl; have hcz15_2 : w13.cell? ⟨gb282, 2, none⟩ = some (.int .i64 0) := (blk_cell BK282.out 2).trans rfl; have hcz15_3 : w13.cell? ⟨gb282, 3, none⟩ = some (.bool false) := (blk_cell BK282.out 3).trans rfl; have hfz15_0 := blk_frozen BK282.out 0; have hfz15_1 := blk_frozen BK282.out 1; have hfz15_2 := blk_frozen BK282.out 2; have hfz15_3 := blk_frozen BK282.out 3; obtain ⟨Ao16, co16, eo16⟩ := Kd.V_slice HO278.out; subst eo16))
   (try simp only [Act.put, List.setIfInBounds_toArray, List.set_cons_zero, List.set_cons_succ])
   go_cut [11, 12] (fun v11 v12 wc => ∃ (kq : Nat) (x11_9 : Int) (x12_9 : List ByteArray) (x283000_9 : List ByteArray) (x283001_9 : List (S60)) (x283002_9 : Int) (x283003_9 : Bool) (u283000 : Value) (u283001 : Value), v11 = .int .i64 x11_9 ∧ Aside0 (bellmanlaw04_TrailTorn.j2 kq a1 a2 l3 x11_9 x12_9 x283000_9 x283001_9 x283002_9 x283003_9 = some r) ∧ Aside0 (kq ≤ k) ∧ Aside0 (Kd.R Kd.string 9 wc w.heap.size (fun _ => True) v12 x12_9) ∧ Aside0 (Kd.V Kd.string 9 wc w.heap.size (fun k_ => some k_ ≠ (v12 : Value).ownBlock ∧ k_ ≠ gb282) u283000 x283000_9) ∧ Aside0 (Kd.V k60 60 wc w.heap.size (fun k_ => some k_ ≠ (v12 : Value).ownBlock ∧ k_ ≠ gb282) u283001 x283001_9) ∧ Aside0 (wc.heap[gb282]? = some (.cells #[u283000, u283001, .int .i64 x283002_9, .bool x283003_9] 25 (0, 0))) ∧ Aside0 (Below w.heap.size w wc))
   case first =>
    have H := HC10.out
    clear HC10
    have H' := Aside0.mk H
    clear H
    go_wp2
    go_loopg [11, 12, 37] k (fun kq v11 v12 v37 w' => ∃ (x11_1 : Int) (x12_1 : List ByteArray) (x37_1 : Int) (x283000_1 : List ByteArray) (x283001_1 : List (S60)) (x283002_1 : Int) (x283003_1 : Bool) (u283000 : Value) (u283001 : Value), v11 = .int .i64 x11_1 ∧ v37 = .int .i64 x37_1 ∧ Aside0 (bellmanlaw04_TrailTorn.l0 kq a1 a2 l3 x11_1 x12_1 l0 (l0.length : Int) x37_1 x283000_1 x283001_1 x283002_1 x283003_1 = some r) ∧ Aside0 (kq ≤ k) ∧ Aside0 (Kd.R Kd.string 9 w' w.heap.size (fun _ => True) v12 x12_1) ∧ Aside0 (Kd.V Kd.string 9 w' w.heap.size (fun k_ => some k_ ≠ (v12 : Value).ownBlock ∧ k_ ≠ gb282) u283000 x283000_1) ∧ Aside0 (Kd.V k60 60 w' w.heap.size (fun k_ => some k_ ≠ (v12 : Value).ownBlock ∧ k_ ≠ gb282) u283001 x283001_1) ∧ Aside0 (w'.heap[gb282]? = some (.cells #[u283000, u283001, .int .i64 x283002_1, .bool x283003_1] 25 (0, 0))) ∧ Aside0 (Below w.heap.size w w'))
    case atStart => exact ⟨(0), (([] : List ByteArray)), (0), (t273), (t276), (t279), (t280), (.slice Ao14 t273.length co14), (.slice Ao16 t276.length co16), (by first | rfl | (simp; done) | (simp [*]; done)), (by first | rfl | (simp; done) | (simp [*]; done)), H', ⟨Nat.le_refl _⟩, ⟨by first | exact Kd.R_nil _ _ _ _ _ | exact Kd.N_nil _ _ _ _ _ | exact Kd.V_nil _ _ _ _ _ | exact Kd.Q_nil _ _ _ _ _ | exact Kd.S_nil _ _ _ _ _⟩, ⟨by (with_reducible repeat (first | apply Kd.V_alloc | apply Kd.V_drewN | apply Kd.V_drew)); exact Kd.V_mono (Kd.V_far (p := ⟨gb282, 3, none⟩) (Kd.V_far (p := ⟨gb282, 2, none⟩) (Kd.V_far (p := ⟨gb282, 1, none⟩) (Kd.V_far (p := ⟨gb282, 0, none⟩) (Kd.V_mono HO275.out (fun k_ hk => (⟨hk, hk.2⟩ : _ ∧ k_ ≠ gb282))) (fun _ hk => hk.2) (.slice Ao14 t273.length co14)) (fun _ hk => hk.2) (.slice Ao16 t276.length co16)) (fun _ hk => hk.2) (.int .i64 t279)) (fun _ hk => hk.2) (.bool t280)) (fun _ hk => ⟨(by simp [Value.ownBlock]), hk.1.2⟩)⟩, ⟨by (with_reducible repeat (first | apply Kd.V_alloc | apply Kd.V_drewN | apply Kd.V_drew)); exact Kd.V_mono (Kd.V_far (p := ⟨gb282, 3, none⟩) (Kd.V_far (p := ⟨gb282, 2, none⟩) (Kd.V_far (p := ⟨gb282, 1, none⟩) (Kd.V_far (p := ⟨gb282, 0, none⟩) (Kd.V_mono HO278.out (fun k_ hk => (⟨hk, hk.2⟩ : _ ∧ k_ ≠ gb282))) (fun _ hk => hk.2) (.slice Ao14 t273.length co14)) (fun _ hk => hk.2) (.slice Ao16 t276.length co16)) (fun _ hk => hk.2) (.int .i64 t279)) (fun _ hk => hk.2) (.bool t280)) (fun _ hk => ⟨(by simp [Value.ownBlock]), hk.1.2⟩)⟩, ⟨by (with_reducible repeat (first | refine blk_drewN ?_ _ | refine blk_drew ?_ | refine blk_alloc ?_ _)); refine blk_put (cs := #[.slice Ao14 t273.length co14, .slice Ao16 t276.length co16, .int .i64 t279, .bool false]) ?_ 3 _ rfl; (with_reducible repeat (first | refine blk_drewN ?_ _ | refine blk_drew ?_ | refine blk_alloc ?_ _)); refine blk_put (cs := #[.slice Ao14 t273.length co14, .slice Ao16 t276.length co16, .int .i64 0, .bool false]) ?_ 2 _ rfl; (with_reducible repeat (first | refine blk_drewN ?_ _ | refine blk_drew ?_ | refine blk_alloc ?_ _)); refine blk_put (cs := #[.slice Ao14 t273.length co14, .slice none 0 0, .int .i64 0, .bool false]) ?_ 1 _ rfl; (with_reducible repeat (first | refine blk_drewN ?_ _ | refine blk_drew ?_ | refine blk_alloc ?_ _)); refine blk_put (cs := #[.slice none 0 0, .slice none 0 0, .int .i64 0, .bool false]) ?_ 0 _ rfl; (with_reducible repeat (first | refine blk_drewN ?_ _ | refine blk_drew ?_ | refine blk_alloc ?_ _)); exact BK282.out⟩, ⟨by repeat (first | (with_reducible first | exact HB.out | apply below_alloc | apply pw_below_drewN | apply below_drew1 | refine below_set ?_ GE282.out) | exact HB.out)⟩⟩
    case round =>
     clear H'
     try clear c1
     try clear p2
     try clear c3
     try clear c5
     try clear c6
     try clear c7
     try clear c7b0
     try clear c14
     try clear hcz15_0
     try clear hcz15_1
     try clear hcz15_2
     try clear hcz15_3
     try clear hfz15_0
     try clear hfz15_1
     try clear hfz15_2
     try clear hfz15_3
     obtain ⟨x11_1, x12_1, x37_1, x283000_1, x283001_1, x283002_1, x283003_1, u283000, u283001, rfl, rfl, HA, HK1, HO_12, HO_283000, HO_283001, BK282, HB⟩ := hrel
     cases gk with
     | zero => exact absurd HA.out (by simp [bellmanlaw04_TrailTorn.l0])
     | succ k1 =>
      have H := HA.out
      clear HA
      simp only [bellmanlaw04_TrailTorn.l0] at H
      by_cases c17 : x37_1 < (l0.length : Int)
      ·rw [if_pos c17] at H
       have c17b0 : decide (x37_1 < (l0.length : Int)) = true := decide_eq_true c17
       clear c17
       (first | rw [c17b0] | (simp only [i64_w, i32_w]; rw [c17b0]) | skip)
       by_cases c18 : 0 ≤ x37_1
       ·rw [if_pos c18] at H
        have c18b0 : decide (0 ≤ x37_1) = true := decide_eq_true c18
        clear c18
        by_cases c19 : x37_1 < (l0.length : Int)
        ·rw [if_pos c19] at H
         have c19b0 : decide (x37_1 < (l0.length : Int)) = true := decide_eq_true c19
         clear c19
         have HC20 := Aside0.mk H
         clear H
         have p283 : 0 ≤ (x37_1 : Int) := of_decide_eq_true (by first | (with_reducible assumption) | assumption)
         have q283 : x37_1 < (l0.length : Int) := of_decide_eq_true (by first | (with_reducible assumption) | assumption)
         obtain ⟨ad283, e283, hx283_0⟩ := Kd.at_string HR0.out x37_1 p283 q283
         cases e283
         replace hx283_0 := (HB.out.cell (World.block_lt_of_cell? w _ hx283_0)).trans hx283_0
         replace p283 := eq_true p283
         replace q283 := eq_true q283
         go_upto_region 11 with (fail)
         go_cut [48] (fun v48 wc => ∃ (kq : Nat) (x48_19 : Bool), v48 = .bool x48_19 ∧ Aside0 (bellmanlaw04_TrailTorn.j1 kq a1 a2 l3 x11_1 x12_1 (rdOf ByteArray.empty l0 x37_1) l0 (l0.length : Int) x37_1 x48_19 x283000_1 x283001_1 x283002_1 x283003_1 = some r) ∧ Aside0 (kq ≤ k1) ∧ Aside0 (Kd.R Kd.string 9 wc w.heap.size (fun _ => True) u12 x12_1) ∧ Aside0 (Kd.V Kd.string 9 wc w.heap.size (fun k_ => some k_ ≠ (u12 : Value).ownBlock ∧ k_ ≠ gb282) u283000 x283000_1) ∧ Aside0 (Kd.V k60 60 wc w.heap.size (fun k_ => some k_ ≠ (u12 : Value).ownBlock ∧ k_ ≠ gb282) u283001 x283001_1) ∧ Aside0 (wc.heap[gb282]? = some (.cells #[u283000, u283001, .int .i64 x283002_1, .bool x283003_1] 25 (0, 0))) ∧ Aside0 (Below w.heap.size w wc))
         case first =>
          have H := HC20.out
          clear HC20
          by_cases c21 : x37_1 = 6
          ·rw [if_pos c21] at H
           have c21b0 : (x37_1 == 6) = true := beq_iff_eq.mpr c21
           have c21b1 : (x37_1 != 6) = false := bne_eq_false_iff_eq.mpr c21
           clear c21
           (first | rw [c21b0] | (simp only [i64_w, i32_w]; rw [c21b0]) | skip)
           have H' := Aside0.mk H
           clear H
           go_wp2
           go_meet
           case rel => exact ⟨_, (true), (by first | rfl | (simp; done) | (simp [*]; done)), H', ⟨by have := HK1.out; first | omega | exact Nat.le_refl _⟩, ⟨by (with_reducible repeat (first | apply Kd.R_alloc | apply Kd.R_drewN | apply Kd.R_drew)); exact HO_12.out⟩, ⟨by (with_reducible repeat (first | apply Kd.V_alloc | apply Kd.V_drewN | apply Kd.V_drew)); exact HO_283000.out⟩, ⟨by (with_reducible repeat (first | apply Kd.V_alloc | apply Kd.V_drewN | apply Kd.V_drew)); exact HO_283001.out⟩, ⟨by (with_reducible repeat (first | refine blk_drewN ?_ _ | refine blk_drew ?_ | refine blk_alloc ?_ _)); exact BK282.out⟩, ⟨by repeat (first | (with_reducible first | exact HB.out | apply below_alloc | apply pw_below_drewN | apply below_drew1 | refine below_set ?_ GE282.out) | exact HB.out)⟩⟩
          ·rw [if_neg c21] at H
           have c21b0 : (x37_1 == 6) = false := beq_eq_false_iff_ne.mpr c21
           have c21b1 : (x37_1 != 6) = true := bne_iff_ne.mpr c21
           (first | rw [c21b0] | (simp only [i64_w, i32_w]; rw [c21b0]) | skip)
           have H' := Aside0.mk H
           clear H
           go_wp2
           go_meet
           case rel => exact ⟨_, (decide (((rdOf ByteArray.empty l0 x37_1).size : Int) > 200)), (by first | rfl | (simp; done) | (simp [*]; done)), H', ⟨by have := HK1.out; first | omega | exact Nat.le_refl _⟩, ⟨by (with_reducible repeat (first | apply Kd.R_alloc | apply Kd.R_drewN | apply Kd.R_drew)); exact HO_12.out⟩, ⟨by (with_reducible repeat (first | apply Kd.V_alloc | apply Kd.V_drewN | apply Kd.V_drew)); exact HO_283000.out⟩, ⟨by (with_reducible repeat (first | apply Kd.V_alloc | apply Kd.V_drewN | apply Kd.V_drew)); exact HO_283001.out⟩, ⟨by (with_reducible repeat (first | refine blk_drewN ?_ _ | refine blk_drew ?_ | refine blk_alloc ?_ _)); exact BK282.out⟩, ⟨by repeat (first | (with_reducible first | exact HB.out | apply below_alloc | apply pw_below_drewN | apply below_drew1 | refine below_set ?_ GE282.out) | exact HB.out)⟩⟩
         case rest =>
          clear HC20
          try clear c1
          try clear c2
          try clear p2
          try clear q2
          try clear hx2
          try clear c3
          try clear c5
          try clear c6
          try clear c7
          try clear c7b0
          try clear c14
          try clear c17
          try clear c17b0
          try clear c18
          try clear c18b0
          try clear c19
          try clear c19b0
          try clear c21
          try clear c21b0
          try clear c21b1
          try clear hcz15_0
          try clear hcz15_1
          try clear hcz15_2
          try clear hcz15_3
          try clear hfz15_0
          try clear hfz15_1
          try clear hfz15_2
          try clear hfz15_3
          try clear hx283_0
          try clear p2
          try clear p283
          try clear q283
          obtain ⟨kq, x48_19, rfl, HA, HJ19, HO_12, HO_283000, HO_283001, BK282, HB⟩ := hcut
          cases kq with
          | zero => exact absurd HA.out (by simp [bellmanlaw04_TrailTorn.j1])
          | succ kj19 =>
           have H := HA.out
           clear HA
           simp only [bellmanlaw04_TrailTorn.j1] at H
           by_cases c22 : x48_19 = true
           ·subst c22
            have H1 : (bellmanlaw04_TrailTorn.j2 kj19 a1 a2 l3 x11_1 x12_1 x283000_1 x283001_1 x283002_1 x283003_1) = some r := by rw [if_pos rfl] at H; exact H
            clear H
            have H := H1
            clear H1
            have H' := Aside0.mk H
            clear H
            go_wp2
            go_meet
            case rel => exact ⟨_, (x11_1), (x12_1), (x283000_1), (x283001_1), (x283002_1), (x283003_1), (u283000), (u283001), (by first | rfl | (simp; done) | (simp [*]; done)), H', ⟨by have := HK1.out; have := HJ19.out; first | omega | exact Nat.le_refl _⟩, ⟨by (with_reducible repeat (first | apply Kd.R_alloc | apply Kd.R_drewN | apply Kd.R_drew)); exact HO_12.out⟩, ⟨by (with_reducible repeat (first | apply Kd.V_alloc | apply Kd.V_drewN | apply Kd.V_drew)); exact HO_283000.out⟩, ⟨by (with_reducible repeat (first | apply Kd.V_alloc | apply Kd.V_drewN | apply Kd.V_drew)); exact HO_283001.out⟩, ⟨by (with_reducible repeat (first | refine blk_drewN ?_ _ | refine blk_drew ?_ | refine blk_alloc ?_ _)); exact BK282.out⟩, ⟨by repeat (first | (with_reducible first | exact HB.out | apply below_alloc | apply pw_below_drewN | apply below_drew1 | refine below_set ?_ GE282.out) | exact HB.out)⟩⟩
           ·replace c22 := Bool.eq_false_iff.mpr c22
            subst c22
            have H1 : ((trail_Append.f x283000_1 x283001_1 x283002_1 x283003_1 0 64 x11_1 (rdOf ByteArray.empty l0 x37_1)).bind fun bt284 => (if bt284.2.2.2.2.2 = 0 then (if x12_1.length < 8796093022208 then (bellmanlaw04_TrailTorn.l0 kj19 a1 a2 l3 bt284.2.2.2.2.1 (x12_1 ++ [(rdOf ByteArray.empty l0 x37_1)]) l0 (l0.length : Int) (wrap64 (x37_1 + 1)) bt284.1 bt284.2.1 bt284.2.2.1 bt284.2.2.2.1) else (none)) else (some false))) = some r := by rw [if_neg (show ¬ (false = true) by decide)] at H; exact H
            clear H
            have H := H1
            clear H1
            replace H := Option.bind_eq_some_iff.mp H
            obtain ⟨⟨t284, t287, t290, t291, t292, t293⟩, A230, H⟩ := H
            replace H : (if t293 = 0 then (if x12_1.length < 8796093022208 then (bellmanlaw04_TrailTorn.l0 kj19 a1 a2 l3 t292 (x12_1 ++ [(rdOf ByteArray.empty l0 x37_1)]) l0 (l0.length : Int) (wrap64 (x37_1 + 1)) t284 t287 t290 t291) else (none)) else (some false)) = some r := H
            have A23 := Aside0.mk A230
            clear A230
            by_cases c24 : t293 = 0
            ·rw [if_pos c24] at H
             have c24b0 : (t293 == 0) = true := beq_iff_eq.mpr c24
             have c24b1 : (t293 != 0) = false := bne_eq_false_iff_eq.mpr c24
             clear c24
             by_cases c25 : x12_1.length < 8796093022208
             ·rw [if_pos c25] at H
              have LMc25 := Aside0.mk c25
              clear c25
              obtain ⟨y295, hy295⟩ : ∃ y_ : List ByteArray, y_ = (x12_1 ++ [(rdOf ByteArray.empty l0 x37_1)]) := ⟨_, rfl⟩
              replace H : (bellmanlaw04_TrailTorn.l0 kj19 a1 a2 l3 t292 y295 l0 (l0.length : Int) (wrap64 (x37_1 + 1)) t284 t287 t290 t291) = some r := by first | (rw [hy295]; with_reducible exact H) | (have H2_ := (Option.bind_some _ _).symm.trans H; rw [hy295]; with_reducible exact H2_) | (have H2_ := (Option.bind_some _ _).symm.trans H; with_reducible exact H2_) | with_reducible exact H | (rw [hy295]; exact H) | exact H
              have Ny295 := Aside0.mk hy295
              clear hy295
              have H' := Aside0.mk H
              clear H
              have hcz26_0 : wc.cell? ⟨gb282, 0, none⟩ = some (u283000) := (blk_cell BK282.out 0).trans rfl
              have hcz26_1 : wc.cell? ⟨gb282, 1, none⟩ = some (u283001) := (blk_cell BK282.out 1).trans rfl
              have hcz26_2 : wc.cell? ⟨gb282, 2, none⟩ = some (.int .i64 x283002_1) := (blk_cell BK282.out 2).trans rfl
              have hcz26_3 : wc.cell? ⟨gb282, 3, none⟩ = some (.bool x283003_1) := (blk_cell BK282.out 3).trans rfl
              have hfz26_0 := blk_frozen BK282.out 0
              have hfz26_1 := blk_frozen BK282.out 1
              have hfz26_2 := blk_frozen BK282.out 2
              have hfz26_3 := blk_frozen BK282.out 3
              obtain ⟨Ao27, co27, eo27⟩ := Kd.V_slice HO_283000.out
              subst eo27
              obtain ⟨Ao28, co28, eo28⟩ := Kd.V_slice HO_283001.out
              subst eo28
              go_wp2_with (first | ((with_reducible refine gate_callee (f := 11) rfl ?_); refine goesL_ (some 53) rfl rfl Tryd.func11 (by kernel_rfl) rfl #[.agg #[.slice Ao27 x283000_1.length co27, .slice Ao28 x283001_1.length co28, .int .i64 x283002_1, .bool x283003_1], .int .i64 0, .int .i64 64, .int .i64 x11_1, .string (rdOf ByteArray.empty l0 x37_1)] rfl (by (try simp only [List.map_toArray, List.map_cons, List.map_nil]); first | done | rfl | (simp only [List.length_drop, List.length_take]; rfl)) ?_; (with_reducible refine (trail_Append.calls _ _ x283000_1 _ _ x283001_1 x283002_1 x283003_1 0 64 x11_1 (rdOf ByteArray.empty l0 x37_1) t284 t287 t290 t291 t292 t293 _ ?side1 ?side2 ?side3 ?side4 A23.out).mono ?_); (case side1 => repeat (first | exact (Kd.V_reads' HO_283000.out).2.2 | (with_reducible refine Kd.C_alloc ?_ _) | (with_reducible refine Kd.C_drewN ?_ _) | (with_reducible refine Kd.C_drew ?_))); (case side2 => exact (Kd.V_reads' HO_283000.out).2.1); (case side3 => repeat (first | exact (Kd.V_reads' HO_283001.out).2.2 | (with_reducible refine Kd.C_alloc ?_ _) | (with_reducible refine Kd.C_drewN ?_ _) | (with_reducible refine Kd.C_drew ?_))); (case side4 => exact (Kd.V_reads' HO_283001.out).2.1); rintro e w29 ⟨v285, v288, rfl, ho0, ho1, hb⟩; refine ⟨_, rfl, ?_⟩; have n0_ := Aside0.mk (Kd.R_below (by (with_reducible repeat (first | apply Kd.R_alloc | apply Kd.R_drewN | apply Kd.R_drew)); exact HO_12.out) hb); have n1_ := Aside0.mk (Kd.V_below (by (with_reducible repeat (first | apply Kd.V_alloc | apply Kd.V_drewN | apply Kd.V_drew)); exact HO_283000.out) hb); have n2_ := Aside0.mk (Kd.V_below (by (with_reducible repeat (first | apply Kd.V_alloc | apply Kd.V_drewN | apply Kd.V_drew)); exact HO_283001.out) hb); have n3_ := Aside0.mk (Kd.V_lower (Kd.V_mono (ok' := fun k_ => some k_ ≠ (u12 : Value).ownBlock ∧ k_ ≠ gb282) ho0 (fun k_ hk_ => ⟨(Kd.fresh' (Kd.R_lt (by (with_reducible repeat (first | apply Kd.R_alloc | apply Kd.R_drewN | apply Kd.R_drew)); exact HO_12.out)) k_ hk_), (Kd.freshB (g := gb282) (o := .cells #[.slice Ao27 x283000_1.length co27, .slice Ao28 x283001_1.length co28, .int .i64 x283002_1, .bool x283003_1] 25 (0, 0)) (by (with_reducible repeat (first | refine blk_drewN ?_ _ | refine blk_drew ?_ | refine blk_alloc ?_ _)); exact BK282.out) k_ hk_)⟩)) (below_size (by repeat (first | (with_reducible first | exact HB.out | apply below_alloc | apply pw_below_drewN | apply below_drew1 | refine below_set ?_ GE282.out) | exact HB.out)))); have n4_ := Aside0.mk (Kd.V_lower (Kd.V_mono (ok' := fun k_ => some k_ ≠ (u12 : Value).ownBlock ∧ k_ ≠ gb282) ho1 (fun k_ hk_ => ⟨(Kd.fresh' (Kd.R_lt (by (with_reducible repeat (first | apply Kd.R_alloc | apply Kd.R_drewN | apply Kd.R_drew)); exact HO_12.out)) k_ hk_), (Kd.freshB (g := gb282) (o := .cells #[.slice Ao27 x283000_1.length co27, .slice Ao28 x283001_1.length co28, .int .i64 x283002_1, .bool x283003_1] 25 (0, 0)) (by (with_reducible repeat (first | refine blk_drewN ?_ _ | refine blk_drew ?_ | refine blk_alloc ?_ _)); exact BK282.out) k_ hk_)⟩)) (below_size (by repeat (first | (with_reducible first | exact HB.out | apply below_alloc | apply pw_below_drewN | apply below_drew1 | refine below_set ?_ GE282.out) | exact HB.out)))); have n5_ := Aside0.mk (blk_below (g := gb282) (o := .cells #[.slice Ao27 x283000_1.length co27, .slice Ao28 x283001_1.length co28, .int .i64 x283002_1, .bool x283003_1] 25 (0, 0)) (by (with_reducible repeat (first | refine blk_drewN ?_ _ | refine blk_drew ?_ | refine blk_alloc ?_ _)); exact BK282.out) hb); have n6_ := Aside0.mk (below_step (by repeat (first | (with_reducible first | exact HB.out | apply below_alloc | apply pw_below_drewN | apply below_drew1 | refine below_set ?_ GE282.out) | exact HB.out)) hb); clear HO_12; clear HO_283000; clear HO_283001; clear BK282; clear HB; have HO_12 := n0_; have HO_283000 := n1_; have HO_283001 := n2_; have HO286 := n3_; have HO289 := n4_; have BK282 := n5_; have HB := n6_; clear n0_ n1_ n2_ n3_ n4_ n5_ n6_; (try clear hb); (try clear hb2); (try clear hk); (try clear hi); (try clear ho0); (try clear ho1)) | ((with_reducible refine gate_dst (N := 15) rfl ?_); (try (refine gate_guard (by rfl) ?_; dsimp only)); refine box_event ?hg (N := 15) ?hd (cs := #[.slice none 0 0, .slice none 0 0, .int .i64 0, .bool false]) (t := 25) ?hr ?_; (case hd => rfl); (case hg => rfl); (case hr => first | (go_simp; done) | (go_simp; rfl)); intro gb294 hg w30 hbox hb; have n0_ := Aside0.mk (Kd.R_below (by (with_reducible repeat (first | apply Kd.R_alloc | apply Kd.R_drewN | apply Kd.R_drew)); exact HO_12.out) hb); have n1_ := Aside0.mk (Kd.V_below (Kd.V_elderB (by (with_reducible repeat (first | apply Kd.V_alloc | apply Kd.V_drewN | apply Kd.V_drew)); exact HO_283000.out) gb294 (Nat.le_of_eq hg.symm)) hb); have n2_ := Aside0.mk (Kd.V_below (Kd.V_elderB (by (with_reducible repeat (first | apply Kd.V_alloc | apply Kd.V_drewN | apply Kd.V_drew)); exact HO_283001.out) gb294 (Nat.le_of_eq hg.symm)) hb); have n3_ := Aside0.mk (Kd.V_below (Kd.V_elderB (by (with_reducible repeat (first | apply Kd.V_alloc | apply Kd.V_drewN | apply Kd.V_drew)); exact HO286.out) gb294 (Nat.le_of_eq hg.symm)) hb); have n4_ := Aside0.mk (Kd.V_below (Kd.V_elderB (by (with_reducible repeat (first | apply Kd.V_alloc | apply Kd.V_drewN | apply Kd.V_drew)); exact HO289.out) gb294 (Nat.le_of_eq hg.symm)) hb); have n5_ := Aside0.mk (blk_below (g := gb282) (o := .cells #[.slice Ao27 x283000_1.length co27, .slice Ao28 x283001_1.length co28, .int .i64 x283002_1, .bool x283003_1] 25 (0, 0)) (by (with_reducible repeat (first | refine blk_drewN ?_ _ | refine blk_drew ?_ | refine blk_alloc ?_ _)); exact BK282.out) hb); have n6_ := Aside0.mk (below_step (by repeat (first | (with_reducible first | exact HB.out | apply below_alloc | apply pw_below_drewN | apply below_drew1 | refine below_set ?_ GE282.out) | exact HB.out)) hb); have n7_ := Aside0.mk (hbox); have n8_ := Aside0.mk ((by rw [hg]; exact (below_size (by repeat (first | (with_reducible first | exact HB.out | apply below_alloc | apply pw_below_drewN | apply below_drew1 | refine below_set ?_ GE282.out) | exact HB.out))) : w.heap.size ≤ gb294)); have n9_ := Aside0.mk ((by rw [hg]; exact (below_size (by repeat (first | (with_reducible first | exact HB.out | apply below_alloc | apply pw_below_drewN | apply below_drew1 | refine below_set ?_ GE282.out) | exact HB.out))) : w.heap.size ≤ gb294)); have n10_ := Aside0.mk ((by rw [hg]; exact Nat.ne_of_lt (blk_lt (g := gb282) (o := .cells #[.slice Ao27 x283000_1.length co27, .slice Ao28 x283001_1.length co28, .int .i64 x283002_1, .bool x283003_1] 25 (0, 0)) (by (with_reducible repeat (first | refine blk_drewN ?_ _ | refine blk_drew ?_ | refine blk_alloc ?_ _)); exact BK282.out)) : gb282 ≠ gb294)); have n11_ := Aside0.mk ((by rw [hg]; exact Nat.ne_of_gt (blk_lt (g := gb282) (o := .cells #[.slice Ao27 x283000_1.length co27, .slice Ao28 x283001_1.length co28, .int .i64 x283002_1, .bool x283003_1] 25 (0, 0)) (by (with_reducible repeat (first | refine blk_drewN ?_ _ | refine blk_drew ?_ | refine blk_alloc ?_ _)); exact BK282.out)) : gb294 ≠ gb282)); clear HO_12; clear HO_283000; clear HO_283001; clear HO286; clear HO289; clear BK282; clear HB; have HO_12 := n0_; have HO_283000 := n1_; have HO_283001 := n2_; have HO286 := n3_; have HO289 := n4_; have BK282 := n5_; have HB := n6_; have BK294 := n7_; have GW294 := n8_; have GE294 := n9_; have NB282_294 := n10_; have NB294_282 := n11_; clear n0_ n1_ n2_ n3_ n4_ n5_ n6_ n7_ n8_ n9_ n10_ n11_; clear hb hbox hg; obtain ⟨Ao31, co31, eo31⟩ := Kd.V_slice HO286.out; subst eo31; have hnb32 := NB294_282.out; have hnc32 := NB282_294.out; have hcz33_0 : w30.cell? ⟨gb294, 0, none⟩ = some (.slice none 0 0) := (blk_cell BK294.out 0).trans rfl; have hcz33_1 : w30.cell? ⟨gb294, 1, none⟩ = some (.slice none 0 0) := (blk_cell BK294.out 1).trans rfl; have hcz33_2 : w30.cell? ⟨gb294, 2, none⟩ = some (.int .i64 0) := (blk_cell BK294.out 2).trans rfl; have hcz33_3 : w30.cell? ⟨gb294, 3, none⟩ = some (.bool false) := (blk_cell BK294.out 3).trans rfl; have hfz33_0 := blk_frozen BK294.out 0; have hfz33_1 := blk_frozen BK294.out 1; have hfz33_2 := blk_frozen BK294.out 2; have hfz33_3 := blk_frozen BK294.out 3; obtain ⟨Ao34, co34, eo34⟩ := Kd.V_slice HO289.out; subst eo34; have hcz35_0 : w30.cell? ⟨gb282, 0, none⟩ = some (.slice Ao27 x283000_1.length co27) := (blk_cell BK282.out 0).trans rfl; have hcz35_1 : w30.cell? ⟨gb282, 1, none⟩ = some (.slice Ao28 x283001_1.length co28) := (blk_cell BK282.out 1).trans rfl; have hcz35_2 : w30.cell? ⟨gb282, 2, none⟩ = some (.int .i64 x283002_1) := (blk_cell BK282.out 2).trans rfl; have hcz35_3 : w30.cell? ⟨gb282, 3, none⟩ = some (.bool x283003_1) := (blk_cell BK282.out 3).trans rfl; have hfz35_0 := blk_frozen BK282.out 0; have hfz35_1 := blk_frozen BK282.out 1; have hfz35_2 := blk_frozen BK282.out 2; have hfz35_3 := blk_frozen BK282.out 3) | ((with_reducible refine gate_builtin (b := .append) (xs := #[.tmp 61, .tmp 63]) rfl ?_); (try (refine gate_guard (by rfl) ?_; dsimp only)); at_builtin; refine Kd.R_append Kd.string (w0 := w) w.heap.size rfl (.tmp 61) (.tmp 63) 22 9 (.string ⟨#[]⟩) 16 rfl Tryd.underlying22 info9 rfl (by decide) (by omega) u12 x12_1 (rdOf ByteArray.empty l0 x37_1) [.string (rdOf ByteArray.empty l0 x37_1)] (fun _ => True) (fun _ => False) rfl (by first | (go_simp; done) | (go_simp; rfl)) ?aP (fun _ hk => hk.elim) ?aF ?aO ?aB ?aS ?aL ?_; (case aP => exact rfl); (case aB => exact (by repeat (first | (with_reducible first | exact HB.out | apply below_alloc | apply pw_below_drewN | apply below_drew1 | refine below_set ?_ GE282.out | refine below_set ?_ GE294.out) | exact HB.out))); (case aF => exact (fun _ _ => trivial)); (case aO => exact (by (with_reducible repeat (first | apply Kd.R_alloc | apply Kd.R_drewN | apply Kd.R_drew)); exact Kd.R_mono (Kd.R_far (p := ⟨gb282, 3, none⟩) (Kd.R_far (p := ⟨gb282, 2, none⟩) (Kd.R_far (p := ⟨gb282, 1, none⟩) (Kd.R_far (p := ⟨gb282, 0, none⟩) (Kd.R_far (p := ⟨gb294, 3, none⟩) (Kd.R_far (p := ⟨gb294, 2, none⟩) (Kd.R_far (p := ⟨gb294, 1, none⟩) (Kd.R_far (p := ⟨gb294, 0, none⟩) (Kd.R_types (Kd.R_types HO_12.out BK294.out (by decide)) BK282.out (by decide)) (fun _ hk => hk.1.2) (.slice Ao31 t284.length co31)) (fun _ hk => hk.1.2) (.slice Ao34 t287.length co34)) (fun _ hk => hk.1.2) (.int .i64 t290)) (fun _ hk => hk.1.2) (.bool t291)) (fun _ hk => hk.2) (.slice Ao31 t284.length co31)) (fun _ hk => hk.2) (.slice Ao34 t287.length co34)) (fun _ hk => hk.2) (.int .i64 t290)) (fun _ hk => hk.2) (.bool t291)) (fun _ hk => trivial))); (case aS => exact (below_size (by repeat (first | (with_reducible first | exact HB.out | apply below_alloc | apply pw_below_drewN | apply below_drew1 | refine below_set ?_ GE282.out | refine below_set ?_ GE294.out) | exact HB.out)))); (case aL => have := LMc25.out; omega); intro v296 w36 ho hb hg hat; rw [← Ny295.out] at ho; have n0_ := Aside0.mk (Kd.V_afterv (ok := (fun k_ => k_ ≠ gb282 ∧ k_ ≠ gb294)) (by (with_reducible repeat (first | apply Kd.V_alloc | apply Kd.V_drewN | apply Kd.V_drew)); exact Kd.V_mono (Kd.V_far (p := ⟨gb282, 3, none⟩) (Kd.V_far (p := ⟨gb282, 2, none⟩) (Kd.V_far (p := ⟨gb282, 1, none⟩) (Kd.V_far (p := ⟨gb282, 0, none⟩) (Kd.V_far (p := ⟨gb294, 3, none⟩) (Kd.V_far (p := ⟨gb294, 2, none⟩) (Kd.V_far (p := ⟨gb294, 1, none⟩) (Kd.V_far (p := ⟨gb294, 0, none⟩) (Kd.V_mono (Kd.V_mono HO_283000.out (fun k_ hk => (⟨hk, hk.2⟩ : _ ∧ k_ ≠ gb294))) (fun k_ hk => (⟨hk, hk.1.1.2⟩ : _ ∧ k_ ≠ gb282))) (fun _ hk => hk.1.2) (.slice Ao31 t284.length co31)) (fun _ hk => hk.1.2) (.slice Ao34 t287.length co34)) (fun _ hk => hk.1.2) (.int .i64 t290)) (fun _ hk => hk.1.2) (.bool t291)) (fun _ hk => hk.2) (.slice Ao31 t284.length co31)) (fun _ hk => hk.2) (.slice Ao34 t287.length co34)) (fun _ hk => hk.2) (.int .i64 t290)) (fun _ hk => hk.2) (.bool t291)) (fun _ hk => ⟨⟨hk.1.1.1.2, hk.1.1.2⟩, hk.1.1.1.1⟩)) hg hat); have n1_ := Aside0.mk (Kd.V_afterv (ok := (fun k_ => k_ ≠ gb282 ∧ k_ ≠ gb294)) (by (with_reducible repeat (first | apply Kd.V_alloc | apply Kd.V_drewN | apply Kd.V_drew)); exact Kd.V_mono (Kd.V_far (p := ⟨gb282, 3, none⟩) (Kd.V_far (p := ⟨gb282, 2, none⟩) (Kd.V_far (p := ⟨gb282, 1, none⟩) (Kd.V_far (p := ⟨gb282, 0, none⟩) (Kd.V_far (p := ⟨gb294, 3, none⟩) (Kd.V_far (p := ⟨gb294, 2, none⟩) (Kd.V_far (p := ⟨gb294, 1, none⟩) (Kd.V_far (p := ⟨gb294, 0, none⟩) (Kd.V_mono (Kd.V_mono HO_283001.out (fun k_ hk => (⟨hk, hk.2⟩ : _ ∧ k_ ≠ gb294))) (fun k_ hk => (⟨hk, hk.1.1.2⟩ : _ ∧ k_ ≠ gb282))) (fun _ hk => hk.1.2) (.slice Ao31 t284.length co31)) (fun _ hk => hk.1.2) (.slice Ao34 t287.length co34)) (fun _ hk => hk.1.2) (.int .i64 t290)) (fun _ hk => hk.1.2) (.bool t291)) (fun _ hk => hk.2) (.slice Ao31 t284.length co31)) (fun _ hk => hk.2) (.slice Ao34 t287.length co34)) (fun _ hk => hk.2) (.int .i64 t290)) (fun _ hk => hk.2) (.bool t291)) (fun _ hk => ⟨⟨hk.1.1.1.2, hk.1.1.2⟩, hk.1.1.1.1⟩)) hg hat); have n2_ := Aside0.mk (blk_grown (g := gb282) (o := .cells #[.slice Ao31 t284.length co31, .slice Ao34 t287.length co34, .int .i64 t290, .bool t291] 25 (0, 0)) (by (with_reducible repeat (first | refine blk_drewN ?_ _ | refine blk_drew ?_ | refine blk_alloc ?_ _)); refine blk_put (cs := #[.slice Ao31 t284.length co31, .slice Ao34 t287.length co34, .int .i64 t290, .bool x283003_1]) ?_ 3 _ rfl; (with_reducible repeat (first | refine blk_drewN ?_ _ | refine blk_drew ?_ | refine blk_alloc ?_ _)); refine blk_put (cs := #[.slice Ao31 t284.length co31, .slice Ao34 t287.length co34, .int .i64 x283002_1, .bool x283003_1]) ?_ 2 _ rfl; (with_reducible repeat (first | refine blk_drewN ?_ _ | refine blk_drew ?_ | refine blk_alloc ?_ _)); refine blk_put (cs := #[.slice Ao31 t284.length co31, .slice Ao28 x283001_1.length co28, .int .i64 x283002_1, .bool x283003_1]) ?_ 1 _ rfl; (with_reducible repeat (first | refine blk_drewN ?_ _ | refine blk_drew ?_ | refine blk_alloc ?_ _)); refine blk_put (cs := #[.slice Ao27 x283000_1.length co27, .slice Ao28 x283001_1.length co28, .int .i64 x283002_1, .bool x283003_1]) ?_ 0 _ rfl; (with_reducible repeat (first | refine blk_drewN ?_ _ | refine blk_drew ?_ | refine blk_alloc ?_ _)); refine blk_far ?_ NB282_294.out _; (with_reducible repeat (first | refine blk_drewN ?_ _ | refine blk_drew ?_ | refine blk_alloc ?_ _)); refine blk_far ?_ NB282_294.out _; (with_reducible repeat (first | refine blk_drewN ?_ _ | refine blk_drew ?_ | refine blk_alloc ?_ _)); refine blk_far ?_ NB282_294.out _; (with_reducible repeat (first | refine blk_drewN ?_ _ | refine blk_drew ?_ | refine blk_alloc ?_ _)); refine blk_far ?_ NB282_294.out _; (with_reducible repeat (first | refine blk_drewN ?_ _ | refine blk_drew ?_ | refine blk_alloc ?_ _)); exact BK282.out) hg (Kd.R_ne HO_12.out BK282.out (by decide))); have n3_ := Aside0.mk (Kd.V_afterv (ok := (fun k_ => k_ ≠ gb282 ∧ k_ ≠ gb294)) (by (with_reducible repeat (first | apply Kd.V_alloc | apply Kd.V_drewN | apply Kd.V_drew)); exact Kd.V_mono (Kd.V_far (p := ⟨gb282, 3, none⟩) (Kd.V_far (p := ⟨gb282, 2, none⟩) (Kd.V_far (p := ⟨gb282, 1, none⟩) (Kd.V_far (p := ⟨gb282, 0, none⟩) (Kd.V_far (p := ⟨gb294, 3, none⟩) (Kd.V_far (p := ⟨gb294, 2, none⟩) (Kd.V_far (p := ⟨gb294, 1, none⟩) (Kd.V_far (p := ⟨gb294, 0, none⟩) (Kd.V_mono (Kd.V_mono HO286.out (fun k_ hk => (⟨hk, hk.2⟩ : _ ∧ k_ ≠ gb294))) (fun k_ hk => (⟨hk, hk.1.1.2⟩ : _ ∧ k_ ≠ gb282))) (fun _ hk => hk.1.2) (.slice Ao31 t284.length co31)) (fun _ hk => hk.1.2) (.slice Ao34 t287.length co34)) (fun _ hk => hk.1.2) (.int .i64 t290)) (fun _ hk => hk.1.2) (.bool t291)) (fun _ hk => hk.2) (.slice Ao31 t284.length co31)) (fun _ hk => hk.2) (.slice Ao34 t287.length co34)) (fun _ hk => hk.2) (.int .i64 t290)) (fun _ hk => hk.2) (.bool t291)) (fun _ hk => ⟨⟨hk.1.1.1.2, hk.1.1.2⟩, hk.1.1.1.1⟩)) hg hat); have n4_ := Aside0.mk (Kd.V_afterv (ok := (fun k_ => k_ ≠ gb282 ∧ k_ ≠ gb294)) (by (with_reducible repeat (first | apply Kd.V_alloc | apply Kd.V_drewN | apply Kd.V_drew)); exact Kd.V_mono (Kd.V_far (p := ⟨gb282, 3, none⟩) (Kd.V_far (p := ⟨gb282, 2, none⟩) (Kd.V_far (p := ⟨gb282, 1, none⟩) (Kd.V_far (p := ⟨gb282, 0, none⟩) (Kd.V_far (p := ⟨gb294, 3, none⟩) (Kd.V_far (p := ⟨gb294, 2, none⟩) (Kd.V_far (p := ⟨gb294, 1, none⟩) (Kd.V_far (p := ⟨gb294, 0, none⟩) (Kd.V_mono (Kd.V_mono HO289.out (fun k_ hk => (⟨hk, hk.2⟩ : _ ∧ k_ ≠ gb294))) (fun k_ hk => (⟨hk, hk.1.1.2⟩ : _ ∧ k_ ≠ gb282))) (fun _ hk => hk.1.2) (.slice Ao31 t284.length co31)) (fun _ hk => hk.1.2) (.slice Ao34 t287.length co34)) (fun _ hk => hk.1.2) (.int .i64 t290)) (fun _ hk => hk.1.2) (.bool t291)) (fun _ hk => hk.2) (.slice Ao31 t284.length co31)) (fun _ hk => hk.2) (.slice Ao34 t287.length co34)) (fun _ hk => hk.2) (.int .i64 t290)) (fun _ hk => hk.2) (.bool t291)) (fun _ hk => ⟨⟨hk.1.1.1.2, hk.1.1.2⟩, hk.1.1.1.1⟩)) hg hat); have n5_ := Aside0.mk (blk_grown (g := gb294) (o := .cells #[.slice Ao31 t284.length co31, .slice Ao34 t287.length co34, .int .i64 t290, .bool t291] 25 (0, 0)) (by (with_reducible repeat (first | refine blk_drewN ?_ _ | refine blk_drew ?_ | refine blk_alloc ?_ _)); refine blk_far ?_ NB294_282.out _; (with_reducible repeat (first | refine blk_drewN ?_ _ | refine blk_drew ?_ | refine blk_alloc ?_ _)); refine blk_far ?_ NB294_282.out _; (with_reducible repeat (first | refine blk_drewN ?_ _ | refine blk_drew ?_ | refine blk_alloc ?_ _)); refine blk_far ?_ NB294_282.out _; (with_reducible repeat (first | refine blk_drewN ?_ _ | refine blk_drew ?_ | refine blk_alloc ?_ _)); refine blk_far ?_ NB294_282.out _; (with_reducible repeat (first | refine blk_drewN ?_ _ | refine blk_drew ?_ | refine blk_alloc ?_ _)); refine blk_put (cs := #[.slice Ao31 t284.length co31, .slice Ao34 t287.length co34, .int .i64 t290, .bool false]) ?_ 3 _ rfl; (with_reducible repeat (first | refine blk_drewN ?_ _ | refine blk_drew ?_ | refine blk_alloc ?_ _)); refine blk_put (cs := #[.slice Ao31 t284.length co31, .slice Ao34 t287.length co34, .int .i64 0, .bool false]) ?_ 2 _ rfl; (with_reducible repeat (first | refine blk_drewN ?_ _ | refine blk_drew ?_ | refine blk_alloc ?_ _)); refine blk_put (cs := #[.slice Ao31 t284.length co31, .slice none 0 0, .int .i64 0, .bool false]) ?_ 1 _ rfl; (with_reducible repeat (first | refine blk_drewN ?_ _ | refine blk_drew ?_ | refine blk_alloc ?_ _)); refine blk_put (cs := #[.slice none 0 0, .slice none 0 0, .int .i64 0, .bool false]) ?_ 0 _ rfl; (with_reducible repeat (first | refine blk_drewN ?_ _ | refine blk_drew ?_ | refine blk_alloc ?_ _)); exact BK294.out) hg (Kd.R_ne HO_12.out BK294.out (by decide))); have n6_ := Aside0.mk (hb); have n7_ := Aside0.mk (ho); clear HO_283000; clear HO_283001; clear BK282; clear HO286; clear HO289; clear BK294; clear HB; clear HO_12; have HO_283000 := n0_; have HO_283001 := n1_; have BK282 := n2_; have HO286 := n3_; have HO289 := n4_; have BK294 := n5_; have HB := n6_; have HO297 := n7_; clear n0_ n1_ n2_ n3_ n4_ n5_ n6_ n7_; clear ho hb hg hat))
              go_roundg kj19
              case measure => have := HK1.out; have := HJ19.out; omega
              case rel => exact ⟨(t292), (y295), (wrap64 (x37_1 + 1)), (t284), (t287), (t290), (t291), (.slice Ao31 t284.length co31), (.slice Ao34 t287.length co34), (by first | rfl | (simp; done) | (simp [*]; done)), (by first | rfl | (simp; done) | (simp [*]; done)), H', ⟨by have := HK1.out; have := HJ19.out; omega⟩, ⟨by (with_reducible repeat (first | apply Kd.R_alloc | apply Kd.R_drewN | apply Kd.R_drew)); exact HO297.out⟩, ⟨by (with_reducible repeat (first | apply Kd.V_alloc | apply Kd.V_drewN | apply Kd.V_drew)); exact Kd.V_mono HO286.out (fun _ hk => ⟨hk.2, hk.1.1⟩)⟩, ⟨by (with_reducible repeat (first | apply Kd.V_alloc | apply Kd.V_drewN | apply Kd.V_drew)); exact Kd.V_mono HO289.out (fun _ hk => ⟨hk.2, hk.1.1⟩)⟩, ⟨by (with_reducible repeat (first | refine blk_drewN ?_ _ | refine blk_drew ?_ | refine blk_alloc ?_ _)); exact BK282.out⟩, ⟨by repeat (first | (with_reducible first | exact HB.out | apply below_alloc | apply pw_below_drewN | apply below_drew1 | refine below_set ?_ GE282.out | refine below_set ?_ GE294.out) | exact HB.out)⟩⟩
             ·rw [if_neg c25] at H
              exact absurd H (by simp)
            ·rw [if_neg c24] at H
             have c24b0 : (t293 == 0) = false := beq_eq_false_iff_ne.mpr c24
             have c24b1 : (t293 != 0) = true := bne_iff_ne.mpr c24
             obtain rfl := Option.some.inj H
             have hcz37_0 : wc.cell? ⟨gb282, 0, none⟩ = some (u283000) := (blk_cell BK282.out 0).trans rfl
             have hcz37_1 : wc.cell? ⟨gb282, 1, none⟩ = some (u283001) := (blk_cell BK282.out 1).trans rfl
             have hcz37_2 : wc.cell? ⟨gb282, 2, none⟩ = some (.int .i64 x283002_1) := (blk_cell BK282.out 2).trans rfl
             have hcz37_3 : wc.cell? ⟨gb282, 3, none⟩ = some (.bool x283003_1) := (blk_cell BK282.out 3).trans rfl
             have hfz37_0 := blk_frozen BK282.out 0
             have hfz37_1 := blk_frozen BK282.out 1
             have hfz37_2 := blk_frozen BK282.out 2
             have hfz37_3 := blk_frozen BK282.out 3
             obtain ⟨Ao38, co38, eo38⟩ := Kd.V_slice HO_283000.out
             subst eo38
             obtain ⟨Ao39, co39, eo39⟩ := Kd.V_slice HO_283001.out
             subst eo39
             go_wp2_with (first | ((with_reducible refine gate_callee (f := 11) rfl ?_); refine goesL_ (some 53) rfl rfl Tryd.func11 (by kernel_rfl) rfl #[.agg #[.slice Ao38 x283000_1.length co38, .slice Ao39 x283001_1.length co39, .int .i64 x283002_1, .bool x283003_1], .int .i64 0, .int .i64 64, .int .i64 x11_1, .string (rdOf ByteArray.empty l0 x37_1)] rfl (by (try simp only [List.map_toArray, List.map_cons, List.map_nil]); first | done | rfl | (simp only [List.length_drop, List.length_take]; rfl)) ?_; (with_reducible refine (trail_Append.calls _ _ x283000_1 _ _ x283001_1 x283002_1 x283003_1 0 64 x11_1 (rdOf ByteArray.empty l0 x37_1) t284 t287 t290 t291 t292 t293 _ ?side1 ?side2 ?side3 ?side4 A23.out).mono ?_); (case side1 => repeat (first | exact (Kd.V_reads' HO_283000.out).2.2 | (with_reducible refine Kd.C_alloc ?_ _) | (with_reducible refine Kd.C_drewN ?_ _) | (with_reducible refine Kd.C_drew ?_))); (case side2 => exact (Kd.V_reads' HO_283000.out).2.1); (case side3 => repeat (first | exact (Kd.V_reads' HO_283001.out).2.2 | (with_reducible refine Kd.C_alloc ?_ _) | (with_reducible refine Kd.C_drewN ?_ _) | (with_reducible refine Kd.C_drew ?_))); (case side4 => exact (Kd.V_reads' HO_283001.out).2.1); rintro e w40 ⟨v285, v288, rfl, ho0, ho1, hb⟩; refine ⟨_, rfl, ?_⟩; have n0_ := Aside0.mk (Kd.R_below (by (with_reducible repeat (first | apply Kd.R_alloc | apply Kd.R_drewN | apply Kd.R_drew)); exact HO_12.out) hb); have n1_ := Aside0.mk (Kd.V_below (by (with_reducible repeat (first | apply Kd.V_alloc | apply Kd.V_drewN | apply Kd.V_drew)); exact HO_283000.out) hb); have n2_ := Aside0.mk (Kd.V_below (by (with_reducible repeat (first | apply Kd.V_alloc | apply Kd.V_drewN | apply Kd.V_drew)); exact HO_283001.out) hb); have n3_ := Aside0.mk (Kd.V_lower (Kd.V_mono (ok' := fun k_ => some k_ ≠ (u12 : Value).ownBlock ∧ k_ ≠ gb282) ho0 (fun k_ hk_ => ⟨(Kd.fresh' (Kd.R_lt (by (with_reducible repeat (first | apply Kd.R_alloc | apply Kd.R_drewN | apply Kd.R_drew)); exact HO_12.out)) k_ hk_), (Kd.freshB (g := gb282) (o := .cells #[.slice Ao38 x283000_1.length co38, .slice Ao39 x283001_1.length co39, .int .i64 x283002_1, .bool x283003_1] 25 (0, 0)) (by (with_reducible repeat (first | refine blk_drewN ?_ _ | refine blk_drew ?_ | refine blk_alloc ?_ _)); exact BK282.out) k_ hk_)⟩)) (below_size (by repeat (first | (with_reducible first | exact HB.out | apply below_alloc | apply pw_below_drewN | apply below_drew1 | refine below_set ?_ GE282.out) | exact HB.out)))); have n4_ := Aside0.mk (Kd.V_lower (Kd.V_mono (ok' := fun k_ => some k_ ≠ (u12 : Value).ownBlock ∧ k_ ≠ gb282) ho1 (fun k_ hk_ => ⟨(Kd.fresh' (Kd.R_lt (by (with_reducible repeat (first | apply Kd.R_alloc | apply Kd.R_drewN | apply Kd.R_drew)); exact HO_12.out)) k_ hk_), (Kd.freshB (g := gb282) (o := .cells #[.slice Ao38 x283000_1.length co38, .slice Ao39 x283001_1.length co39, .int .i64 x283002_1, .bool x283003_1] 25 (0, 0)) (by (with_reducible repeat (first | refine blk_drewN ?_ _ | refine blk_drew ?_ | refine blk_alloc ?_ _)); exact BK282.out) k_ hk_)⟩)) (below_size (by repeat (first | (with_reducible first | exact HB.out | apply below_alloc | apply pw_below_drewN | apply below_drew1 | refine below_set ?_ GE282.out) | exact HB.out)))); have n5_ := Aside0.mk (blk_below (g := gb282) (o := .cells #[.slice Ao38 x283000_1.length co38, .slice Ao39 x283001_1.length co39, .int .i64 x283002_1, .bool x283003_1] 25 (0, 0)) (by (with_reducible repeat (first | refine blk_drewN ?_ _ | refine blk_drew ?_ | refine blk_alloc ?_ _)); exact BK282.out) hb); have n6_ := Aside0.mk (below_step (by repeat (first | (with_reducible first | exact HB.out | apply below_alloc | apply pw_below_drewN | apply below_drew1 | refine below_set ?_ GE282.out) | exact HB.out)) hb); clear HO_12; clear HO_283000; clear HO_283001; clear BK282; clear HB; have HO_12 := n0_; have HO_283000 := n1_; have HO_283001 := n2_; have HO286 := n3_; have HO289 := n4_; have BK282 := n5_; have HB := n6_; clear n0_ n1_ n2_ n3_ n4_ n5_ n6_; (try clear hb); (try clear hb2); (try clear hk); (try clear hi); (try clear ho0); (try clear ho1)) | ((with_reducible refine gate_dst (N := 15) rfl ?_); (try (refine gate_guard (by rfl) ?_; dsimp only)); refine box_event ?hg (N := 15) ?hd (cs := #[.slice none 0 0, .slice none 0 0, .int .i64 0, .bool false]) (t := 25) ?hr ?_; (case hd => rfl); (case hg => rfl); (case hr => first | (go_simp; done) | (go_simp; rfl)); intro gb294 hg w41 hbox hb; have n0_ := Aside0.mk (Kd.R_below (by (with_reducible repeat (first | apply Kd.R_alloc | apply Kd.R_drewN | apply Kd.R_drew)); exact HO_12.out) hb); have n1_ := Aside0.mk (Kd.V_below (Kd.V_elderB (by (with_reducible repeat (first | apply Kd.V_alloc | apply Kd.V_drewN | apply Kd.V_drew)); exact HO_283000.out) gb294 (Nat.le_of_eq hg.symm)) hb); have n2_ := Aside0.mk (Kd.V_below (Kd.V_elderB (by (with_reducible repeat (first | apply Kd.V_alloc | apply Kd.V_drewN | apply Kd.V_drew)); exact HO_283001.out) gb294 (Nat.le_of_eq hg.symm)) hb); have n3_ := Aside0.mk (Kd.V_below (Kd.V_elderB (by (with_reducible repeat (first | apply Kd.V_alloc | apply Kd.V_drewN | apply Kd.V_drew)); exact HO286.out) gb294 (Nat.le_of_eq hg.symm)) hb); have n4_ := Aside0.mk (Kd.V_below (Kd.V_elderB (by (with_reducible repeat (first | apply Kd.V_alloc | apply Kd.V_drewN | apply Kd.V_drew)); exact HO289.out) gb294 (Nat.le_of_eq hg.symm)) hb); have n5_ := Aside0.mk (blk_below (g := gb282) (o := .cells #[.slice Ao38 x283000_1.length co38, .slice Ao39 x283001_1.length co39, .int .i64 x283002_1, .bool x283003_1] 25 (0, 0)) (by (with_reducible repeat (first | refine blk_drewN ?_ _ | refine blk_drew ?_ | refine blk_alloc ?_ _)); exact BK282.out) hb); have n6_ := Aside0.mk (below_step (by repeat (first | (with_reducible first | exact HB.out | apply below_alloc | apply pw_below_drewN | apply below_drew1 | refine below_set ?_ GE282.out) | exact HB.out)) hb); have n7_ := Aside0.mk (hbox); have n8_ := Aside0.mk ((by rw [hg]; exact (below_size (by repeat (first | (with_reducible first | exact HB.out | apply below_alloc | apply pw_below_drewN | apply below_drew1 | refine below_set ?_ GE282.out) | exact HB.out))) : w.heap.size ≤ gb294)); have n9_ := Aside0.mk ((by rw [hg]; exact (below_size (by repeat (first | (with_reducible first | exact HB.out | apply below_alloc | apply pw_below_drewN | apply below_drew1 | refine below_set ?_ GE282.out) | exact HB.out))) : w.heap.size ≤ gb294)); have n10_ := Aside0.mk ((by rw [hg]; exact Nat.ne_of_lt (blk_lt (g := gb282) (o := .cells #[.slice Ao38 x283000_1.length co38, .slice Ao39 x283001_1.length co39, .int .i64 x283002_1, .bool x283003_1] 25 (0, 0)) (by (with_reducible repeat (first | refine blk_drewN ?_ _ | refine blk_drew ?_ | refine blk_alloc ?_ _)); exact BK282.out)) : gb282 ≠ gb294)); have n11_ := Aside0.mk ((by rw [hg]; exact Nat.ne_of_gt (blk_lt (g := gb282) (o := .cells #[.slice Ao38 x283000_1.length co38, .slice Ao39 x283001_1.length co39, .int .i64 x283002_1, .bool x283003_1] 25 (0, 0)) (by (with_reducible repeat (first | refine blk_drewN ?_ _ | refine blk_drew ?_ | refine blk_alloc ?_ _)); exact BK282.out)) : gb294 ≠ gb282)); clear HO_12; clear HO_283000; clear HO_283001; clear HO286; clear HO289; clear BK282; clear HB; have HO_12 := n0_; have HO_283000 := n1_; have HO_283001 := n2_; have HO286 := n3_; have HO289 := n4_; have BK282 := n5_; have HB := n6_; have BK294 := n7_; have GW294 := n8_; have GE294 := n9_; have NB282_294 := n10_; have NB294_282 := n11_; clear n0_ n1_ n2_ n3_ n4_ n5_ n6_ n7_ n8_ n9_ n10_ n11_; clear hb hbox hg; obtain ⟨Ao42, co42, eo42⟩ := Kd.V_slice HO286.out; subst eo42; have hnb43 := NB294_282.out; have hnc43 := NB282_294.out; have hcz44_0 : w41.cell? ⟨gb294, 0, none⟩ = some (.slice none 0 0) := (blk_cell BK294.out 0).trans rfl; have hcz44_1 : w41.cell? ⟨gb294, 1, none⟩ = some (.slice none 0 0) := (blk_cell BK294.out 1).trans rfl; have hcz44_2 : w41.cell? ⟨gb294, 2, none⟩ = some (.int .i64 0) := (blk_cell BK294.out 2).trans rfl; have hcz44_3 : w41.cell? ⟨gb294, 3, none⟩ = some (.bool false) := (blk_cell BK294.out 3).trans rfl; have hfz44_0 := blk_frozen BK294.out 0; have hfz44_1 := blk_frozen BK294.out 1; have hfz44_2 := blk_frozen BK294.out 2; have hfz44_3 := blk_frozen BK294.out 3; obtain ⟨Ao45, co45, eo45⟩ := Kd.V_slice HO289.out; subst eo45))
             go_ret
             exact ⟨by first | rfl | (simp [errW_none, errW_some] <;> rfl) | (simp [*, errW_none, errW_some] <;> rfl), by repeat (first | (with_reducible first | exact HB.out | apply below_alloc | apply pw_below_drewN | apply below_drew1 | refine below_set ?_ GE282.out | refine below_set ?_ GE294.out) | exact HB.out)⟩
        ·rw [if_neg c19] at H
         exact absurd H (by simp)
       ·rw [if_neg c18] at H
        exact absurd H (by simp)
      ·rw [if_neg c17] at H
       have c17b0 : decide (x37_1 < (l0.length : Int)) = false := decide_eq_false c17
       clear c17
       (first | rw [c17b0] | (simp only [i64_w, i32_w]; rw [c17b0]) | skip)
       have H' := Aside0.mk H
       clear H
       go_wp2
       go_meet
       case rel => exact ⟨_, (x11_1), (x12_1), (x283000_1), (x283001_1), (x283002_1), (x283003_1), (u283000), (u283001), (by first | rfl | (simp; done) | (simp [*]; done)), H', ⟨by have := HK1.out; first | omega | exact Nat.le_refl _⟩, ⟨by (with_reducible repeat (first | apply Kd.R_alloc | apply Kd.R_drewN | apply Kd.R_drew)); exact HO_12.out⟩, ⟨by (with_reducible repeat (first | apply Kd.V_alloc | apply Kd.V_drewN | apply Kd.V_drew)); exact HO_283000.out⟩, ⟨by (with_reducible repeat (first | apply Kd.V_alloc | apply Kd.V_drewN | apply Kd.V_drew)); exact HO_283001.out⟩, ⟨by (with_reducible repeat (first | refine blk_drewN ?_ _ | refine blk_drew ?_ | refine blk_alloc ?_ _)); exact BK282.out⟩, ⟨by repeat (first | (with_reducible first | exact HB.out | apply below_alloc | apply pw_below_drewN | apply below_drew1 | refine below_set ?_ GE282.out) | exact HB.out)⟩⟩
   case rest =>
    clear HC10
    try clear c1
    try clear c2
    try clear p2
    try clear q2
    try clear hx2
    try clear c3
    try clear c4
    try clear c5
    try clear c6
    try clear p6
    try clear c7
    try clear c7b0
    try clear c11
    try clear c14
    try clear c17
    try clear c17b0
    try clear c18
    try clear c18b0
    try clear c19
    try clear c19b0
    try clear c21
    try clear c21b0
    try clear c21b1
    try clear c22
    try clear c24
    try clear c24b0
    try clear c24b1
    try clear c25
    try clear p28
    try clear q28
    try clear hx28
    try clear c32
    try clear c43
    try clear hcz15_0
    try clear hcz15_1
    try clear hcz15_2
    try clear hcz15_3
    try clear hcz26_0
    try clear hcz26_1
    try clear hcz26_2
    try clear hcz26_3
    try clear hcz33_0
    try clear hcz33_1
    try clear hcz33_2
    try clear hcz33_3
    try clear hcz35_0
    try clear hcz35_1
    try clear hcz35_2
    try clear hcz35_3
    try clear hcz37_0
    try clear hcz37_1
    try clear hcz37_2
    try clear hcz37_3
    try clear hcz44_0
    try clear hcz44_1
    try clear hcz44_2
    try clear hcz44_3
    try clear hfz15_0
    try clear hfz15_1
    try clear hfz15_2
    try clear hfz15_3
    try clear hfz26_0
    try clear hfz26_1
    try clear hfz26_2
    try clear hfz26_3
    try clear hfz33_0
    try clear hfz33_1
    try clear hfz33_2
    try clear hfz33_3
    try clear hfz35_0
    try clear hfz35_1
    try clear hfz35_2
    try clear hfz35_3
    try clear hfz37_0
    try clear hfz37_1
    try clear hfz37_2
    try clear hfz37_3
    try clear hfz44_0
    try clear hfz44_1
    try clear hfz44_2
    try clear hfz44_3
    try clear hx283_0
    try clear p2
    try clear p283
    try clear q2
    try clear q283
    obtain ⟨kq, x11_9, x12_9, x283000_9, x283001_9, x283002_9, x283003_9, u283000, u283001, rfl, HA, HJ9, HO_12, HO_283000, HO_283001, BK282, HB⟩ := hcut
    cases kq with
    | zero => exact absurd HA.out (by simp [bellmanlaw04_TrailTorn.j2])
    | succ kj9 =>
     have H := HA.out
     clear HA
     simp only [bellmanlaw04_TrailTorn.j2] at H
     replace H := Option.bind_eq_some_iff.mp H
     obtain ⟨⟨t298, t301, t304, t305, t306⟩, A460, H⟩ := H
     replace H : ((trail_Append.f t298 t301 a2 t305 0 64 x11_9 a1).bind fun bt307 => (if bt307.2.2.2.2.2 = 0 then ((block_Sync.f bt307.1 bt307.2.1 bt307.2.2.1 bt307.2.2.2.1).bind fun bt318 => (bellmanlaw04_TrailTorn.j3 kj9 a1 l3 x11_9 x12_9 t306 bt307.2.2.2.2.1 bt318.2.2.2.2 bt318.1 bt318.2.1 bt318.2.2.1 bt318.2.2.2.1)) else (bellmanlaw04_TrailTorn.j3 kj9 a1 l3 x11_9 x12_9 t306 bt307.2.2.2.2.1 bt307.2.2.2.2.2 bt307.1 bt307.2.1 bt307.2.2.1 bt307.2.2.2.1))) = some r := H
     have A46 := Aside0.mk A460
     clear A460
     replace H := Option.bind_eq_some_iff.mp H
     obtain ⟨⟨t307, t310, t313, t314, t315, t316⟩, A470, H⟩ := H
     replace H : (if t316 = 0 then ((block_Sync.f t307 t310 t313 t314).bind fun bt318 => (bellmanlaw04_TrailTorn.j3 kj9 a1 l3 x11_9 x12_9 t306 t315 bt318.2.2.2.2 bt318.1 bt318.2.1 bt318.2.2.1 bt318.2.2.2.1)) else (bellmanlaw04_TrailTorn.j3 kj9 a1 l3 x11_9 x12_9 t306 t315 t316 t307 t310 t313 t314)) = some r := H
     have A47 := Aside0.mk A470
     clear A470
     have HC48 := Aside0.mk H
     clear H
     have hcz49_0 : wc.cell? ⟨gb282, 0, none⟩ = some (u283000) := (blk_cell BK282.out 0).trans rfl
     have hcz49_1 : wc.cell? ⟨gb282, 1, none⟩ = some (u283001) := (blk_cell BK282.out 1).trans rfl
     have hcz49_2 : wc.cell? ⟨gb282, 2, none⟩ = some (.int .i64 x283002_9) := (blk_cell BK282.out 2).trans rfl
     have hcz49_3 : wc.cell? ⟨gb282, 3, none⟩ = some (.bool x283003_9) := (blk_cell BK282.out 3).trans rfl
     have hfz49_0 := blk_frozen BK282.out 0
     have hfz49_1 := blk_frozen BK282.out 1
     have hfz49_2 := blk_frozen BK282.out 2
     have hfz49_3 := blk_frozen BK282.out 3
     obtain ⟨Ao50, co50, eo50⟩ := Kd.V_slice HO_283000.out
     subst eo50
     obtain ⟨Ao51, co51, eo51⟩ := Kd.V_slice HO_283001.out
     subst eo51
     go_upto_region 19 with (first | ((with_reducible refine gate_callee (f := 15) rfl ?_); refine goesL_ (some 68) rfl rfl Tryd.func15 (by kernel_rfl) rfl #[.agg #[.slice Ao50 x283000_9.length co50, .slice Ao51 x283001_9.length co51, .int .i64 x283002_9, .bool x283003_9]] rfl (by (try simp only [List.map_toArray, List.map_cons, List.map_nil]); first | done | rfl | (simp only [List.length_drop, List.length_take]; rfl)) ?_; (with_reducible refine (block_Sync.calls _ _ x283000_9 _ _ x283001_9 x283002_9 x283003_9 t298 t301 t304 t305 t306 _ ?side1 ?side2 ?side3 ?side4 A46.out).mono ?_); (case side1 => repeat (first | exact (Kd.V_reads' HO_283000.out).2.2 | (with_reducible refine Kd.C_alloc ?_ _) | (with_reducible refine Kd.C_drewN ?_ _) | (with_reducible refine Kd.C_drew ?_))); (case side2 => exact (Kd.V_reads' HO_283000.out).2.1); (case side3 => repeat (first | exact (Kd.V_reads' HO_283001.out).2.2 | (with_reducible refine Kd.C_alloc ?_ _) | (with_reducible refine Kd.C_drewN ?_ _) | (with_reducible refine Kd.C_drew ?_))); (case side4 => exact (Kd.V_reads' HO_283001.out).2.1); rintro e w52 ⟨v299, v302, rfl, ho0, ho1, hb⟩; refine ⟨_, rfl, ?_⟩; have n0_ := Aside0.mk (Kd.R_below (by (with_reducible repeat (first | apply Kd.R_alloc | apply Kd.R_drewN | apply Kd.R_drew)); exact HO_12.out) hb); have n1_ := Aside0.mk (Kd.V_below (by (with_reducible repeat (first | apply Kd.V_alloc | apply Kd.V_drewN | apply Kd.V_drew)); exact HO_283000.out) hb); have n2_ := Aside0.mk (Kd.V_below (by (with_reducible repeat (first | apply Kd.V_alloc | apply Kd.V_drewN | apply Kd.V_drew)); exact HO_283001.out) hb); have n3_ := Aside0.mk (Kd.V_lower (Kd.V_mono (ok' := fun k_ => some k_ ≠ (u12 : Value).ownBlock ∧ k_ ≠ gb282) ho0 (fun k_ hk_ => ⟨(Kd.fresh' (Kd.R_lt (by (with_reducible repeat (first | apply Kd.R_alloc | apply Kd.R_drewN | apply Kd.R_drew)); exact HO_12.out)) k_ hk_), (Kd.freshB (g := gb282) (o := .cells #[.slice Ao50 x283000_9.length co50, .slice Ao51 x283001_9.length co51, .int .i64 x283002_9, .bool x283003_9] 25 (0, 0)) (by (with_reducible repeat (first | refine blk_drewN ?_ _ | refine blk_drew ?_ | refine blk_alloc ?_ _)); exact BK282.out) k_ hk_)⟩)) (below_size (by repeat (first | (with_reducible first | exact HB.out | apply below_alloc | apply pw_below_drewN | apply below_drew1 | refine below_set ?_ GE282.out) | exact HB.out)))); have n4_ := Aside0.mk (Kd.V_lower (Kd.V_mono (ok' := fun k_ => some k_ ≠ (u12 : Value).ownBlock ∧ k_ ≠ gb282) ho1 (fun k_ hk_ => ⟨(Kd.fresh' (Kd.R_lt (by (with_reducible repeat (first | apply Kd.R_alloc | apply Kd.R_drewN | apply Kd.R_drew)); exact HO_12.out)) k_ hk_), (Kd.freshB (g := gb282) (o := .cells #[.slice Ao50 x283000_9.length co50, .slice Ao51 x283001_9.length co51, .int .i64 x283002_9, .bool x283003_9] 25 (0, 0)) (by (with_reducible repeat (first | refine blk_drewN ?_ _ | refine blk_drew ?_ | refine blk_alloc ?_ _)); exact BK282.out) k_ hk_)⟩)) (below_size (by repeat (first | (with_reducible first | exact HB.out | apply below_alloc | apply pw_below_drewN | apply below_drew1 | refine below_set ?_ GE282.out) | exact HB.out)))); have n5_ := Aside0.mk (blk_below (g := gb282) (o := .cells #[.slice Ao50 x283000_9.length co50, .slice Ao51 x283001_9.length co51, .int .i64 x283002_9, .bool x283003_9] 25 (0, 0)) (by (with_reducible repeat (first | refine blk_drewN ?_ _ | refine blk_drew ?_ | refine blk_alloc ?_ _)); exact BK282.out) hb); have n6_ := Aside0.mk (below_step (by repeat (first | (with_reducible first | exact HB.out | apply below_alloc | apply pw_below_drewN | apply below_drew1 | refine below_set ?_ GE282.out) | exact HB.out)) hb); clear HO_12; clear HO_283000; clear HO_283001; clear BK282; clear HB; have HO_12 := n0_; have HO_283000 := n1_; have HO_283001 := n2_; have HO300 := n3_; have HO303 := n4_; have BK282 := n5_; have HB := n6_; clear n0_ n1_ n2_ n3_ n4_ n5_ n6_; (try clear hb); (try clear hb2); (try clear hk); (try clear hi); (try clear ho0); (try clear ho1); obtain ⟨Ao53, co53, eo53⟩ := Kd.V_slice HO300.out; subst eo53; have hcz54_0 : w52.cell? ⟨gb282, 0, none⟩ = some (.slice Ao50 x283000_9.length co50) := (blk_cell BK282.out 0).trans rfl; have hcz54_1 : w52.cell? ⟨gb282, 1, none⟩ = some (.slice Ao51 x283001_9.length co51) := (blk_cell BK282.out 1).trans rfl; have hcz54_2 : w52.cell? ⟨gb282, 2, none⟩ = some (.int .i64 x283002_9) := (blk_cell BK282.out 2).trans rfl; have hcz54_3 : w52.cell? ⟨gb282, 3, none⟩ = some (.bool x283003_9) := (blk_cell BK282.out 3).trans rfl; have hfz54_0 := blk_frozen BK282.out 0; have hfz54_1 := blk_frozen BK282.out 1; have hfz54_2 := blk_frozen BK282.out 2; have hfz54_3 := blk_frozen BK282.out 3; obtain ⟨Ao55, co55, eo55⟩ := Kd.V_slice HO303.out; subst eo55))
     go_cut [18] (fun v18 wc => v18 = .int .i64 t306 ∧ Aside0 (Kd.R Kd.string 9 wc w.heap.size (fun _ => True) u12 x12_9) ∧ Aside0 (Kd.V Kd.string 9 wc w.heap.size (fun k_ => some k_ ≠ (u12 : Value).ownBlock ∧ k_ ≠ gb282) (.slice Ao50 x283000_9.length co50) x283000_9) ∧ Aside0 (Kd.V k60 60 wc w.heap.size (fun k_ => some k_ ≠ (u12 : Value).ownBlock ∧ k_ ≠ gb282) (.slice Ao51 x283001_9.length co51) x283001_9) ∧ Aside0 (Kd.V Kd.string 9 wc w.heap.size (fun k_ => some k_ ≠ (u12 : Value).ownBlock ∧ k_ ≠ gb282) (.slice Ao53 t298.length co53) t298) ∧ Aside0 (Kd.V k60 60 wc w.heap.size (fun k_ => some k_ ≠ (u12 : Value).ownBlock ∧ k_ ≠ gb282) (.slice Ao55 t301.length co55) t301) ∧ Aside0 (wc.heap[gb282]? = some (.cells #[.slice Ao53 t298.length co53, .slice Ao55 t301.length co55, .int .i64 a2, .bool t305] 25 (0, 0))) ∧ Aside0 (Below w.heap.size w wc))
     case first =>
      go_wp2
      go_meet
      case rel => exact ⟨rfl, ⟨by (with_reducible repeat (first | apply Kd.R_alloc | apply Kd.R_drewN | apply Kd.R_drew)); exact Kd.R_mono (Kd.R_far (p := ⟨gb282, 2, none⟩) (Kd.R_far (p := ⟨gb282, 3, none⟩) (Kd.R_far (p := ⟨gb282, 2, none⟩) (Kd.R_far (p := ⟨gb282, 1, none⟩) (Kd.R_far (p := ⟨gb282, 0, none⟩) (Kd.R_types HO_12.out BK282.out (by decide)) (fun _ hk => hk.2) (.slice Ao53 t298.length co53)) (fun _ hk => hk.2) (.slice Ao55 t301.length co55)) (fun _ hk => hk.2) (.int .i64 t304)) (fun _ hk => hk.2) (.bool t305)) (fun _ hk => hk.2) (.int .i64 a2)) (fun _ h_ => h_.1)⟩, ⟨by (with_reducible repeat (first | apply Kd.V_alloc | apply Kd.V_drewN | apply Kd.V_drew)); exact Kd.V_mono (Kd.V_far (p := ⟨gb282, 2, none⟩) (Kd.V_far (p := ⟨gb282, 3, none⟩) (Kd.V_far (p := ⟨gb282, 2, none⟩) (Kd.V_far (p := ⟨gb282, 1, none⟩) (Kd.V_far (p := ⟨gb282, 0, none⟩) (Kd.V_mono HO_283000.out (fun k_ hk => (⟨hk, hk.2⟩ : _ ∧ k_ ≠ gb282))) (fun _ hk => hk.2) (.slice Ao53 t298.length co53)) (fun _ hk => hk.2) (.slice Ao55 t301.length co55)) (fun _ hk => hk.2) (.int .i64 t304)) (fun _ hk => hk.2) (.bool t305)) (fun _ hk => hk.2) (.int .i64 a2)) (fun _ h_ => h_.1)⟩, ⟨by (with_reducible repeat (first | apply Kd.V_alloc | apply Kd.V_drewN | apply Kd.V_drew)); exact Kd.V_mono (Kd.V_far (p := ⟨gb282, 2, none⟩) (Kd.V_far (p := ⟨gb282, 3, none⟩) (Kd.V_far (p := ⟨gb282, 2, none⟩) (Kd.V_far (p := ⟨gb282, 1, none⟩) (Kd.V_far (p := ⟨gb282, 0, none⟩) (Kd.V_mono HO_283001.out (fun k_ hk => (⟨hk, hk.2⟩ : _ ∧ k_ ≠ gb282))) (fun _ hk => hk.2) (.slice Ao53 t298.length co53)) (fun _ hk => hk.2) (.slice Ao55 t301.length co55)) (fun _ hk => hk.2) (.int .i64 t304)) (fun _ hk => hk.2) (.bool t305)) (fun _ hk => hk.2) (.int .i64 a2)) (fun _ h_ => h_.1)⟩, ⟨by (with_reducible repeat (first | apply Kd.V_alloc | apply Kd.V_drewN | apply Kd.V_drew)); exact Kd.V_mono (Kd.V_far (p := ⟨gb282, 2, none⟩) (Kd.V_far (p := ⟨gb282, 3, none⟩) (Kd.V_far (p := ⟨gb282, 2, none⟩) (Kd.V_far (p := ⟨gb282, 1, none⟩) (Kd.V_far (p := ⟨gb282, 0, none⟩) (Kd.V_mono HO300.out (fun k_ hk => (⟨hk, hk.2⟩ : _ ∧ k_ ≠ gb282))) (fun _ hk => hk.2) (.slice Ao53 t298.length co53)) (fun _ hk => hk.2) (.slice Ao55 t301.length co55)) (fun _ hk => hk.2) (.int .i64 t304)) (fun _ hk => hk.2) (.bool t305)) (fun _ hk => hk.2) (.int .i64 a2)) (fun _ h_ => h_.1)⟩, ⟨by (with_reducible repeat (first | apply Kd.V_alloc | apply Kd.V_drewN | apply Kd.V_drew)); exact Kd.V_mono (Kd.V_far (p := ⟨gb282, 2, none⟩) (Kd.V_far (p := ⟨gb282, 3, none⟩) (Kd.V_far (p := ⟨gb282, 2, none⟩) (Kd.V_far (p := ⟨gb282, 1, none⟩) (Kd.V_far (p := ⟨gb282, 0, none⟩) (Kd.V_mono HO303.out (fun k_ hk => (⟨hk, hk.2⟩ : _ ∧ k_ ≠ gb282))) (fun _ hk => hk.2) (.slice Ao53 t298.length co53)) (fun _ hk => hk.2) (.slice Ao55 t301.length co55)) (fun _ hk => hk.2) (.int .i64 t304)) (fun _ hk => hk.2) (.bool t305)) (fun _ hk => hk.2) (.int .i64 a2)) (fun _ h_ => h_.1)⟩, ⟨by (with_reducible repeat (first | refine blk_drewN ?_ _ | refine blk_drew ?_ | refine blk_alloc ?_ _)); refine blk_put (cs := #[.slice Ao53 t298.length co53, .slice Ao55 t301.length co55, .int .i64 t304, .bool t305]) ?_ 2 _ rfl; (with_reducible repeat (first | refine blk_drewN ?_ _ | refine blk_drew ?_ | refine blk_alloc ?_ _)); refine blk_put (cs := #[.slice Ao53 t298.length co53, .slice Ao55 t301.length co55, .int .i64 t304, .bool x283003_9]) ?_ 3 _ rfl; (with_reducible repeat (first | refine blk_drewN ?_ _ | refine blk_drew ?_ | refine blk_alloc ?_ _)); refine blk_put (cs := #[.slice Ao53 t298.length co53, .slice Ao55 t301.length co55, .int .i64 x283002_9, .bool x283003_9]) ?_ 2 _ rfl; (with_reducible repeat (first | refine blk_drewN ?_ _ | refine blk_drew ?_ | refine blk_alloc ?_ _)); refine blk_put (cs := #[.slice Ao53 t298.length co53, .slice Ao51 x283001_9.length co51, .int .i64 x283002_9, .bool x283003_9]) ?_ 1 _ rfl; (with_reducible repeat (first | refine blk_drewN ?_ _ | refine blk_drew ?_ | refine blk_alloc ?_ _)); refine blk_put (cs := #[.slice Ao50 x283000_9.length co50, .slice Ao51 x283001_9.length co51, .int .i64 x283002_9, .bool x283003_9]) ?_ 0 _ rfl; (with_reducible repeat (first | refine blk_drewN ?_ _ | refine blk_drew ?_ | refine blk_alloc ?_ _)); exact BK282.out⟩, ⟨by repeat (first | (with_reducible first | exact HB.out | apply below_alloc | apply pw_below_drewN | apply below_drew1 | refine below_set ?_ GE282.out) | exact HB.out)⟩⟩
     case rest =>
      clear HO_12 HO_283000 HO_283001 HO300 HO303 BK282 HB
      obtain ⟨rfl, HO_12, HO_283000, HO_283001, HO300, HO303, BK282, HB⟩ := hcut
      have hcy49_0 : wc.cell? ⟨gb282, 0, none⟩ = some (.slice Ao53 t298.length co53) := (blk_cell BK282.out 0).trans rfl
      have hfy49_0 := blk_frozen BK282.out 0
      have hcy49_1 : wc.cell? ⟨gb282, 1, none⟩ = some (.slice Ao55 t301.length co55) := (blk_cell BK282.out 1).trans rfl
      have hfy49_1 := blk_frozen BK282.out 1
      have hcy49_2 : wc.cell? ⟨gb282, 2, none⟩ = some (.int .i64 a2) := (blk_cell BK282.out 2).trans rfl
      have hfy49_2 := blk_frozen BK282.out 2
      have hcy49_3 : wc.cell? ⟨gb282, 3, none⟩ = some (.bool t305) := (blk_cell BK282.out 3).trans rfl
      have hfy49_3 := blk_frozen BK282.out 3
      go_upto_if 82 with (first | ((with_reducible refine gate_callee (f := 11) rfl ?_); refine goesL_ (some 77) rfl rfl Tryd.func11 (by kernel_rfl) rfl #[.agg #[.slice Ao53 t298.length co53, .slice Ao55 t301.length co55, .int .i64 a2, .bool t305], .int .i64 0, .int .i64 64, .int .i64 x11_9, .string a1] rfl (by (try simp only [List.map_toArray, List.map_cons, List.map_nil]); first | done | rfl | (simp only [List.length_drop, List.length_take]; rfl)) ?_; (with_reducible refine (trail_Append.calls _ _ t298 _ _ t301 a2 t305 0 64 x11_9 a1 t307 t310 t313 t314 t315 t316 _ ?side1 ?side2 ?side3 ?side4 A47.out).mono ?_); (case side1 => refine (Kd.V_reads' (e := 9) (base := w.heap.size) (ok := fun k_ => (some k_ ≠ (u12 : Value).ownBlock ∧ k_ ≠ gb282)) (n := t298.length) (c := co53) ?_).2.2; exact (by (with_reducible repeat (first | apply Kd.V_alloc | apply Kd.V_drewN | apply Kd.V_drew)); exact (HO300.out))); (case side2 => exact (Kd.V_reads' HO300.out).2.1); (case side3 => refine (Kd.V_reads' (e := 60) (base := w.heap.size) (ok := fun k_ => (some k_ ≠ (u12 : Value).ownBlock ∧ k_ ≠ gb282)) (n := t301.length) (c := co55) ?_).2.2; exact (by (with_reducible repeat (first | apply Kd.V_alloc | apply Kd.V_drewN | apply Kd.V_drew)); exact (HO303.out))); (case side4 => exact (Kd.V_reads' HO303.out).2.1); rintro e w56 ⟨v308, v311, rfl, ho0, ho1, hb⟩; refine ⟨_, rfl, ?_⟩; have n0_ := Aside0.mk (Kd.R_below (by (with_reducible repeat (first | apply Kd.R_alloc | apply Kd.R_drewN | apply Kd.R_drew)); exact (HO_12.out)) hb); have n1_ := Aside0.mk (Kd.V_below (by (with_reducible repeat (first | apply Kd.V_alloc | apply Kd.V_drewN | apply Kd.V_drew)); exact (HO_283000.out)) hb); have n2_ := Aside0.mk (Kd.V_below (by (with_reducible repeat (first | apply Kd.V_alloc | apply Kd.V_drewN | apply Kd.V_drew)); exact (HO_283001.out)) hb); have n3_ := Aside0.mk (Kd.V_below (by (with_reducible repeat (first | apply Kd.V_alloc | apply Kd.V_drewN | apply Kd.V_drew)); exact (HO300.out)) hb); have n4_ := Aside0.mk (Kd.V_below (by (with_reducible repeat (first | apply Kd.V_alloc | apply Kd.V_drewN | apply Kd.V_drew)); exact (HO303.out)) hb); have n5_ := Aside0.mk (Kd.V_lower (Kd.V_mono (ok' := fun k_ => some k_ ≠ (u12 : Value).ownBlock ∧ k_ ≠ gb282) ho0 (fun k_ hk_ => ⟨(Kd.fresh' (Kd.R_lt (by (with_reducible repeat (first | apply Kd.R_alloc | apply Kd.R_drewN | apply Kd.R_drew)); exact (HO_12.out))) k_ hk_), (Kd.freshB (g := gb282) (o := .cells #[.slice Ao53 t298.length co53, .slice Ao55 t301.length co55, .int .i64 a2, .bool t305] 25 (0, 0)) (by (with_reducible repeat (first | refine blk_drewN ?_ _ | refine blk_drew ?_ | refine blk_alloc ?_ _)); exact BK282.out) k_ hk_)⟩)) (below_size (by repeat (first | (with_reducible first | exact HB.out | apply below_alloc | apply pw_below_drewN | apply below_drew1 | refine below_set ?_ GE282.out) | exact HB.out)))); have n6_ := Aside0.mk (Kd.V_lower (Kd.V_mono (ok' := fun k_ => some k_ ≠ (u12 : Value).ownBlock ∧ k_ ≠ gb282) ho1 (fun k_ hk_ => ⟨(Kd.fresh' (Kd.R_lt (by (with_reducible repeat (first | apply Kd.R_alloc | apply Kd.R_drewN | apply Kd.R_drew)); exact (HO_12.out))) k_ hk_), (Kd.freshB (g := gb282) (o := .cells #[.slice Ao53 t298.length co53, .slice Ao55 t301.length co55, .int .i64 a2, .bool t305] 25 (0, 0)) (by (with_reducible repeat (first | refine blk_drewN ?_ _ | refine blk_drew ?_ | refine blk_alloc ?_ _)); exact BK282.out) k_ hk_)⟩)) (below_size (by repeat (first | (with_reducible first | exact HB.out | apply below_alloc | apply pw_below_drewN | apply below_drew1 | refine below_set ?_ GE282.out) | exact HB.out)))); have n7_ := Aside0.mk (blk_below (g := gb282) (o := .cells #[.slice Ao53 t298.length co53, .slice Ao55 t301.length co55, .int .i64 a2, .bool t305] 25 (0, 0)) (by (with_reducible repeat (first | refine blk_drewN ?_ _ | refine blk_drew ?_ | refine blk_alloc ?_ _)); exact BK282.out) hb); have n8_ := Aside0.mk (below_step (by repeat (first | (with_reducible first | exact HB.out | apply below_alloc | apply pw_below_drewN | apply below_drew1 | refine below_set ?_ GE282.out) | exact HB.out)) hb); clear HO_12; clear HO_283000; clear HO_283001; clear HO300; clear HO303; clear BK282; clear HB; have HO_12 := n0_; have HO_283000 := n1_; have HO_283001 := n2_; have HO300 := n3_; have HO303 := n4_; have HO309 := n5_; have HO312 := n6_; have BK282 := n7_; have HB := n8_; clear n0_ n1_ n2_ n3_ n4_ n5_ n6_ n7_ n8_; (try clear hb); (try clear hb2); (try clear hk); (try clear hi); (try clear ho0); (try clear ho1)) | ((with_reducible refine gate_dst (N := 19) rfl ?_); (try (refine gate_guard (by rfl) ?_; dsimp only)); refine box_event ?hg (N := 19) ?hd (cs := #[.slice none 0 0, .slice none 0 0, .int .i64 0, .bool false]) (t := 25) ?hr ?_; (case hd => rfl); (case hg => rfl); (case hr => first | (go_simp; done) | (go_simp; rfl)); intro gb317 hg w57 hbox hb; have n0_ := Aside0.mk (Kd.R_below (by (with_reducible repeat (first | apply Kd.R_alloc | apply Kd.R_drewN | apply Kd.R_drew)); exact HO_12.out) hb); have n1_ := Aside0.mk (Kd.V_below (Kd.V_elderB (by (with_reducible repeat (first | apply Kd.V_alloc | apply Kd.V_drewN | apply Kd.V_drew)); exact HO_283000.out) gb317 (Nat.le_of_eq hg.symm)) hb); have n2_ := Aside0.mk (Kd.V_below (Kd.V_elderB (by (with_reducible repeat (first | apply Kd.V_alloc | apply Kd.V_drewN | apply Kd.V_drew)); exact HO_283001.out) gb317 (Nat.le_of_eq hg.symm)) hb); have n3_ := Aside0.mk (Kd.V_below (Kd.V_elderB (by (with_reducible repeat (first | apply Kd.V_alloc | apply Kd.V_drewN | apply Kd.V_drew)); exact HO300.out) gb317 (Nat.le_of_eq hg.symm)) hb); have n4_ := Aside0.mk (Kd.V_below (Kd.V_elderB (by (with_reducible repeat (first | apply Kd.V_alloc | apply Kd.V_drewN | apply Kd.V_drew)); exact HO303.out) gb317 (Nat.le_of_eq hg.symm)) hb); have n5_ := Aside0.mk (Kd.V_below (Kd.V_elderB (by (with_reducible repeat (first | apply Kd.V_alloc | apply Kd.V_drewN | apply Kd.V_drew)); exact HO309.out) gb317 (Nat.le_of_eq hg.symm)) hb); have n6_ := Aside0.mk (Kd.V_below (Kd.V_elderB (by (with_reducible repeat (first | apply Kd.V_alloc | apply Kd.V_drewN | apply Kd.V_drew)); exact HO312.out) gb317 (Nat.le_of_eq hg.symm)) hb); have n7_ := Aside0.mk (blk_below (g := gb282) (o := .cells #[.slice Ao53 t298.length co53, .slice Ao55 t301.length co55, .int .i64 a2, .bool t305] 25 (0, 0)) (by (with_reducible repeat (first | refine blk_drewN ?_ _ | refine blk_drew ?_ | refine blk_alloc ?_ _)); exact BK282.out) hb); have n8_ := Aside0.mk (below_step (by repeat (first | (with_reducible first | exact HB.out | apply below_alloc | apply pw_below_drewN | apply below_drew1 | refine below_set ?_ GE282.out) | exact HB.out)) hb); have n9_ := Aside0.mk (hbox); have n10_ := Aside0.mk ((by rw [hg]; exact (below_size (by repeat (first | (with_reducible first | exact HB.out | apply below_alloc | apply pw_below_drewN | apply below_drew1 | refine below_set ?_ GE282.out) | exact HB.out))) : w.heap.size ≤ gb317)); have n11_ := Aside0.mk ((by rw [hg]; exact (below_size (by repeat (first | (with_reducible first | exact HB.out | apply below_alloc | apply pw_below_drewN | apply below_drew1 | refine below_set ?_ GE282.out) | exact HB.out))) : w.heap.size ≤ gb317)); have n12_ := Aside0.mk ((by rw [hg]; exact Nat.ne_of_lt (blk_lt (g := gb282) (o := .cells #[.slice Ao53 t298.length co53, .slice Ao55 t301.length co55, .int .i64 a2, .bool t305] 25 (0, 0)) (by (with_reducible repeat (first | refine blk_drewN ?_ _ | refine blk_drew ?_ | refine blk_alloc ?_ _)); exact BK282.out)) : gb282 ≠ gb317)); have n13_ := Aside0.mk ((by rw [hg]; exact Nat.ne_of_gt (blk_lt (g := gb282) (o := .cells #[.slice Ao53 t298.length co53, .slice Ao55 t301.length co55, .int .i64 a2, .bool t305] 25 (0, 0)) (by (with_reducible repeat (first | refine blk_drewN ?_ _ | refine blk_drew ?_ | refine blk_alloc ?_ _)); exact BK282.out)) : gb317 ≠ gb282)); clear HO_12; clear HO_283000; clear HO_283001; clear HO300; clear HO303; clear HO309; clear HO312; clear BK282; clear HB; have HO_12 := n0_; have HO_283000 := n1_; have HO_283001 := n2_; have HO300 := n3_; have HO303 := n4_; have HO309 := n5_; have HO312 := n6_; have BK282 := n7_; have HB := n8_; have BK317 := n9_; have GW317 := n10_; have GE317 := n11_; have NB282_317 := n12_; have NB317_282 := n13_; clear n0_ n1_ n2_ n3_ n4_ n5_ n6_ n7_ n8_ n9_ n10_ n11_ n12_ n13_; clear hb hbox hg; obtain ⟨Ao58, co58, eo58⟩ := Kd.V_slice HO309.out; subst eo58; have hnb59 := NB317_282.out; have hnc59 := NB282_317.out; have hcz60_0 : w57.cell? ⟨gb317, 0, none⟩ = some (.slice none 0 0) := (blk_cell BK317.out 0).trans rfl; have hcz60_1 : w57.cell? ⟨gb317, 1, none⟩ = some (.slice none 0 0) := (blk_cell BK317.out 1).trans rfl; have hcz60_2 : w57.cell? ⟨gb317, 2, none⟩ = some (.int .i64 0) := (blk_cell BK317.out 2).trans rfl; have hcz60_3 : w57.cell? ⟨gb317, 3, none⟩ = some (.bool false) := (blk_cell BK317.out 3).trans rfl; have hfz60_0 := blk_frozen BK317.out 0; have hfz60_1 := blk_frozen BK317.out 1; have hfz60_2 := blk_frozen BK317.out 2; have hfz60_3 := blk_frozen BK317.out 3; obtain ⟨Ao61, co61, eo61⟩ := Kd.V_slice HO312.out; subst eo61))
      (try simp only [Act.put, List.setIfInBounds_toArray, List.set_cons_zero, List.set_cons_succ])
      go_cut [21] (fun v21 wc => ∃ (kq : Nat) (x21_47 : Int) (x318000_47 : List ByteArray) (x318001_47 : List (S60)) (x318002_47 : Int) (x318003_47 : Bool) (u318000 : Value) (u318001 : Value), v21 = .int .i64 x21_47 ∧ Aside0 (bellmanlaw04_TrailTorn.j3 kq a1 l3 x11_9 x12_9 t306 t315 x21_47 x318000_47 x318001_47 x318002_47 x318003_47 = some r) ∧ Aside0 (kq ≤ kj9) ∧ Aside0 (Kd.R Kd.string 9 wc w.heap.size (fun _ => True) u12 x12_9) ∧ Aside0 (Kd.V Kd.string 9 wc w.heap.size (fun k_ => some k_ ≠ (u12 : Value).ownBlock ∧ k_ ≠ gb282 ∧ k_ ≠ gb317) (.slice Ao53 t298.length co53) t298) ∧ Aside0 (Kd.V k60 60 wc w.heap.size (fun k_ => some k_ ≠ (u12 : Value).ownBlock ∧ k_ ≠ gb282 ∧ k_ ≠ gb317) (.slice Ao55 t301.length co55) t301) ∧ Aside0 (Kd.V Kd.string 9 wc w.heap.size (fun k_ => some k_ ≠ (u12 : Value).ownBlock ∧ k_ ≠ gb282 ∧ k_ ≠ gb317) u318000 x318000_47) ∧ Aside0 (Kd.V k60 60 wc w.heap.size (fun k_ => some k_ ≠ (u12 : Value).ownBlock ∧ k_ ≠ gb282 ∧ k_ ≠ gb317) u318001 x318001_47) ∧ Aside0 (wc.heap[gb282]? = some (.cells #[(.slice Ao53 t298.length co53), (.slice Ao55 t301.length co55), .int .i64 a2, .bool t305] 25 (0, 0))) ∧ Aside0 (wc.heap[gb317]? = some (.cells #[u318000, u318001, .int .i64 x318002_47, .bool x318003_47] 25 (0, 0))) ∧ Aside0 (Below w.heap.size w wc))
      case first =>
       have H := HC48.out
       clear HC48
       by_cases c62 : t316 = 0
       ·rw [if_pos c62] at H
        have c62b0 : (t316 == 0) = true := beq_iff_eq.mpr c62
        have c62b1 : (t316 != 0) = false := bne_eq_false_iff_eq.mpr c62
        clear c62
        (first | rw [c62b0] | (simp only [i64_w, i32_w]; rw [c62b0]) | skip)
        replace H := Option.bind_eq_some_iff.mp H
        obtain ⟨⟨t318, t321, t324, t325, t326⟩, A630, H⟩ := H
        replace H : (bellmanlaw04_TrailTorn.j3 kj9 a1 l3 x11_9 x12_9 t306 t315 t326 t318 t321 t324 t325) = some r := H
        have A63 := Aside0.mk A630
        clear A630
        have H' := Aside0.mk H
        clear H
        have hnb64 := NB317_282.out
        have hnc64 := NB282_317.out
        have hcz65_0 : w57.cell? ⟨gb317, 0, none⟩ = some (.slice none 0 0) := (blk_cell BK317.out 0).trans rfl
        have hcz65_1 : w57.cell? ⟨gb317, 1, none⟩ = some (.slice none 0 0) := (blk_cell BK317.out 1).trans rfl
        have hcz65_2 : w57.cell? ⟨gb317, 2, none⟩ = some (.int .i64 0) := (blk_cell BK317.out 2).trans rfl
        have hcz65_3 : w57.cell? ⟨gb317, 3, none⟩ = some (.bool false) := (blk_cell BK317.out 3).trans rfl
        have hfz65_0 := blk_frozen BK317.out 0
        have hfz65_1 := blk_frozen BK317.out 1
        have hfz65_2 := blk_frozen BK317.out 2
        have hfz65_3 := blk_frozen BK317.out 3
        go_wp2_with (first | ((with_reducible refine gate_callee (f := 15) rfl ?_); refine goesL_ (some 85) rfl rfl Tryd.func15 (by kernel_rfl) rfl #[.agg #[.slice Ao58 t307.length co58, .slice Ao61 t310.length co61, .int .i64 t313, .bool t314]] rfl (by (try simp only [List.map_toArray, List.map_cons, List.map_nil]); first | done | rfl | (simp only [List.length_drop, List.length_take]; rfl)) ?_; (with_reducible refine (block_Sync.calls _ _ t307 _ _ t310 t313 t314 t318 t321 t324 t325 t326 _ ?side1 ?side2 ?side3 ?side4 A63.out).mono ?_); (case side1 => refine (Kd.V_reads' (e := 9) (base := w.heap.size) (ok := fun k_ => ((some k_ ≠ (u12 : Value).ownBlock ∧ k_ ≠ gb282) ∧ k_ ≠ gb317)) (n := t307.length) (c := co58) ?_).2.2; exact (by (with_reducible repeat (first | apply Kd.V_alloc | apply Kd.V_drewN | apply Kd.V_drew)); exact (Kd.V_mono (Kd.V_far (p := ⟨gb317, 3, none⟩) (Kd.V_far (p := ⟨gb317, 2, none⟩) (Kd.V_far (p := ⟨gb317, 1, none⟩) (Kd.V_far (p := ⟨gb317, 0, none⟩) (Kd.V_mono HO309.out (fun k_ hk => (⟨hk, hk.2⟩ : _ ∧ k_ ≠ gb317))) (fun _ hk => hk.2) (.slice Ao58 t307.length co58)) (fun _ hk => hk.2) (.slice Ao61 t310.length co61)) (fun _ hk => hk.2) (.int .i64 t313)) (fun _ hk => hk.2) (.bool t314)) (fun _ h_ => h_.1)))); (case side2 => exact (Kd.V_reads' HO309.out).2.1); (case side3 => refine (Kd.V_reads' (e := 60) (base := w.heap.size) (ok := fun k_ => ((some k_ ≠ (u12 : Value).ownBlock ∧ k_ ≠ gb282) ∧ k_ ≠ gb317)) (n := t310.length) (c := co61) ?_).2.2; exact (by (with_reducible repeat (first | apply Kd.V_alloc | apply Kd.V_drewN | apply Kd.V_drew)); exact (Kd.V_mono (Kd.V_far (p := ⟨gb317, 3, none⟩) (Kd.V_far (p := ⟨gb317, 2, none⟩) (Kd.V_far (p := ⟨gb317, 1, none⟩) (Kd.V_far (p := ⟨gb317, 0, none⟩) (Kd.V_mono HO312.out (fun k_ hk => (⟨hk, hk.2⟩ : _ ∧ k_ ≠ gb317))) (fun _ hk => hk.2) (.slice Ao58 t307.length co58)) (fun _ hk => hk.2) (.slice Ao61 t310.length co61)) (fun _ hk => hk.2) (.int .i64 t313)) (fun _ hk => hk.2) (.bool t314)) (fun _ h_ => h_.1)))); (case side4 => exact (Kd.V_reads' HO312.out).2.1); rintro e w66 ⟨v319, v322, rfl, ho0, ho1, hb⟩; refine ⟨_, rfl, ?_⟩; have n0_ := Aside0.mk (Kd.R_below (by (with_reducible repeat (first | apply Kd.R_alloc | apply Kd.R_drewN | apply Kd.R_drew)); exact (Kd.R_mono (Kd.R_far (p := ⟨gb317, 3, none⟩) (Kd.R_far (p := ⟨gb317, 2, none⟩) (Kd.R_far (p := ⟨gb317, 1, none⟩) (Kd.R_far (p := ⟨gb317, 0, none⟩) (Kd.R_types HO_12.out BK317.out (by decide)) (fun _ hk => hk.2) (.slice Ao58 t307.length co58)) (fun _ hk => hk.2) (.slice Ao61 t310.length co61)) (fun _ hk => hk.2) (.int .i64 t313)) (fun _ hk => hk.2) (.bool t314)) (fun _ h_ => h_.1))) hb); have n1_ := Aside0.mk (Kd.V_below (by (with_reducible repeat (first | apply Kd.V_alloc | apply Kd.V_drewN | apply Kd.V_drew)); exact (Kd.V_mono (Kd.V_far (p := ⟨gb317, 3, none⟩) (Kd.V_far (p := ⟨gb317, 2, none⟩) (Kd.V_far (p := ⟨gb317, 1, none⟩) (Kd.V_far (p := ⟨gb317, 0, none⟩) (Kd.V_mono HO_283000.out (fun k_ hk => (⟨hk, hk.2⟩ : _ ∧ k_ ≠ gb317))) (fun _ hk => hk.2) (.slice Ao58 t307.length co58)) (fun _ hk => hk.2) (.slice Ao61 t310.length co61)) (fun _ hk => hk.2) (.int .i64 t313)) (fun _ hk => hk.2) (.bool t314)) (fun _ h_ => h_.1))) hb); have n2_ := Aside0.mk (Kd.V_below (by (with_reducible repeat (first | apply Kd.V_alloc | apply Kd.V_drewN | apply Kd.V_drew)); exact (Kd.V_mono (Kd.V_far (p := ⟨gb317, 3, none⟩) (Kd.V_far (p := ⟨gb317, 2, none⟩) (Kd.V_far (p := ⟨gb317, 1, none⟩) (Kd.V_far (p := ⟨gb317, 0, none⟩) (Kd.V_mono HO_283001.out (fun k_ hk => (⟨hk, hk.2⟩ : _ ∧ k_ ≠ gb317))) (fun _ hk => hk.2) (.slice Ao58 t307.length co58)) (fun _ hk => hk.2) (.slice Ao61 t310.length co61)) (fun _ hk => hk.2) (.int .i64 t313)) (fun _ hk => hk.2) (.bool t314)) (fun _ h_ => h_.1))) hb); have n3_ := Aside0.mk (Kd.V_below (by (with_reducible repeat (first | apply Kd.V_alloc | apply Kd.V_drewN | apply Kd.V_drew)); exact (Kd.V_mono (Kd.V_far (p := ⟨gb317, 3, none⟩) (Kd.V_far (p := ⟨gb317, 2, none⟩) (Kd.V_far (p := ⟨gb317, 1, none⟩) (Kd.V_far (p := ⟨gb317, 0, none⟩) (Kd.V_mono HO300.out (fun k_ hk => (⟨hk, hk.2⟩ : _ ∧ k_ ≠ gb317))) (fun _ hk => hk.2) (.slice Ao58 t307.length co58)) (fun _ hk => hk.2) (.slice Ao61 t310.length co61)) (fun _ hk => hk.2) (.int .i64 t313)) (fun _ hk => hk.2) (.bool t314)) (fun _ h_ => h_.1))) hb); have n4_ := Aside0.mk (Kd.V_below (by (with_reducible repeat (first | apply Kd.V_alloc | apply Kd.V_drewN | apply Kd.V_drew)); exact (Kd.V_mono (Kd.V_far (p := ⟨gb317, 3, none⟩) (Kd.V_far (p := ⟨gb317, 2, none⟩) (Kd.V_far (p := ⟨gb317, 1, none⟩) (Kd.V_far (p := ⟨gb317, 0, none⟩) (Kd.V_mono HO303.out (fun k_ hk => (⟨hk, hk.2⟩ : _ ∧ k_ ≠ gb317))) (fun _ hk => hk.2) (.slice Ao58 t307.length co58)) (fun _ hk => hk.2) (.slice Ao61 t310.length co61)) (fun _ hk => hk.2) (.int .i64 t313)) (fun _ hk => hk.2) (.bool t314)) (fun _ h_ => h_.1))) hb); have n5_ := Aside0.mk (Kd.V_below (by (with_reducible repeat (first | apply Kd.V_alloc | apply Kd.V_drewN | apply Kd.V_drew)); exact (Kd.V_mono (Kd.V_far (p := ⟨gb317, 3, none⟩) (Kd.V_far (p := ⟨gb317, 2, none⟩) (Kd.V_far (p := ⟨gb317, 1, none⟩) (Kd.V_far (p := ⟨gb317, 0, none⟩) (Kd.V_mono HO309.out (fun k_ hk => (⟨hk, hk.2⟩ : _ ∧ k_ ≠ gb317))) (fun _ hk => hk.2) (.slice Ao58 t307.length co58)) (fun _ hk => hk.2) (.slice Ao61 t310.length co61)) (fun _ hk => hk.2) (.int .i64 t313)) (fun _ hk => hk.2) (.bool t314)) (fun _ h_ => h_.1))) hb); have n6_ := Aside0.mk (Kd.V_below (by (with_reducible repeat (first | apply Kd.V_alloc | apply Kd.V_drewN | apply Kd.V_drew)); exact (Kd.V_mono (Kd.V_far (p := ⟨gb317, 3, none⟩) (Kd.V_far (p := ⟨gb317, 2, none⟩) (Kd.V_far (p := ⟨gb317, 1, none⟩) (Kd.V_far (p := ⟨gb317, 0, none⟩) (Kd.V_mono HO312.out (fun k_ hk => (⟨hk, hk.2⟩ : _ ∧ k_ ≠ gb317))) (fun _ hk => hk.2) (.slice Ao58 t307.length co58)) (fun _ hk => hk.2) (.slice Ao61 t310.length co61)) (fun _ hk => hk.2) (.int .i64 t313)) (fun _ hk => hk.2) (.bool t314)) (fun _ h_ => h_.1))) hb); have n7_ := Aside0.mk (Kd.V_lower (Kd.V_mono (ok' := fun k_ => some k_ ≠ (u12 : Value).ownBlock ∧ k_ ≠ gb282 ∧ k_ ≠ gb317) ho0 (fun k_ hk_ => ⟨(Kd.fresh' (Kd.R_lt (by (with_reducible repeat (first | apply Kd.R_alloc | apply Kd.R_drewN | apply Kd.R_drew)); exact (Kd.R_mono (Kd.R_far (p := ⟨gb317, 3, none⟩) (Kd.R_far (p := ⟨gb317, 2, none⟩) (Kd.R_far (p := ⟨gb317, 1, none⟩) (Kd.R_far (p := ⟨gb317, 0, none⟩) (Kd.R_types HO_12.out BK317.out (by decide)) (fun _ hk => hk.2) (.slice Ao58 t307.length co58)) (fun _ hk => hk.2) (.slice Ao61 t310.length co61)) (fun _ hk => hk.2) (.int .i64 t313)) (fun _ hk => hk.2) (.bool t314)) (fun _ h_ => h_.1)))) k_ hk_), (Kd.freshB (g := gb282) (o := .cells #[.slice Ao53 t298.length co53, .slice Ao55 t301.length co55, .int .i64 a2, .bool t305] 25 (0, 0)) (by (with_reducible repeat (first | refine blk_drewN ?_ _ | refine blk_drew ?_ | refine blk_alloc ?_ _)); refine blk_far ?_ NB282_317.out _; (with_reducible repeat (first | refine blk_drewN ?_ _ | refine blk_drew ?_ | refine blk_alloc ?_ _)); refine blk_far ?_ NB282_317.out _; (with_reducible repeat (first | refine blk_drewN ?_ _ | refine blk_drew ?_ | refine blk_alloc ?_ _)); refine blk_far ?_ NB282_317.out _; (with_reducible repeat (first | refine blk_drewN ?_ _ | refine blk_drew ?_ | refine blk_alloc ?_ _)); refine blk_far ?_ NB282_317.out _; (with_reducible repeat (first | refine blk_drewN ?_ _ | refine blk_drew ?_ | refine blk_alloc ?_ _)); exact BK282.out) k_ hk_), (Kd.freshB (g := gb317) (o := .cells #[.slice Ao58 t307.length co58, .slice Ao61 t310.length co61, .int .i64 t313, .bool t314] 25 (0, 0)) (by (with_reducible repeat (first | refine blk_drewN ?_ _ | refine blk_drew ?_ | refine blk_alloc ?_ _)); refine blk_put (cs := #[.slice Ao58 t307.length co58, .slice Ao61 t310.length co61, .int .i64 t313, .bool false]) ?_ 3 _ rfl; (with_reducible repeat (first | refine blk_drewN ?_ _ | refine blk_drew ?_ | refine blk_alloc ?_ _)); refine blk_put (cs := #[.slice Ao58 t307.length co58, .slice Ao61 t310.length co61, .int .i64 0, .bool false]) ?_ 2 _ rfl; (with_reducible repeat (first | refine blk_drewN ?_ _ | refine blk_drew ?_ | refine blk_alloc ?_ _)); refine blk_put (cs := #[.slice Ao58 t307.length co58, .slice none 0 0, .int .i64 0, .bool false]) ?_ 1 _ rfl; (with_reducible repeat (first | refine blk_drewN ?_ _ | refine blk_drew ?_ | refine blk_alloc ?_ _)); refine blk_put (cs := #[.slice none 0 0, .slice none 0 0, .int .i64 0, .bool false]) ?_ 0 _ rfl; (with_reducible repeat (first | refine blk_drewN ?_ _ | refine blk_drew ?_ | refine blk_alloc ?_ _)); exact BK317.out) k_ hk_)⟩)) (below_size (by repeat (first | (with_reducible first | exact HB.out | apply below_alloc | apply pw_below_drewN | apply below_drew1 | refine below_set ?_ GE282.out | refine below_set ?_ GE317.out) | exact HB.out)))); have n8_ := Aside0.mk (Kd.V_lower (Kd.V_mono (ok' := fun k_ => some k_ ≠ (u12 : Value).ownBlock ∧ k_ ≠ gb282 ∧ k_ ≠ gb317) ho1 (fun k_ hk_ => ⟨(Kd.fresh' (Kd.R_lt (by (with_reducible repeat (first | apply Kd.R_alloc | apply Kd.R_drewN | apply Kd.R_drew)); exact (Kd.R_mono (Kd.R_far (p := ⟨gb317, 3, none⟩) (Kd.R_far (p := ⟨gb317, 2, none⟩) (Kd.R_far (p := ⟨gb317, 1, none⟩) (Kd.R_far (p := ⟨gb317, 0, none⟩) (Kd.R_types HO_12.out BK317.out (by decide)) (fun _ hk => hk.2) (.slice Ao58 t307.length co58)) (fun _ hk => hk.2) (.slice Ao61 t310.length co61)) (fun _ hk => hk.2) (.int .i64 t313)) (fun _ hk => hk.2) (.bool t314)) (fun _ h_ => h_.1)))) k_ hk_), (Kd.freshB (g := gb282) (o := .cells #[.slice Ao53 t298.length co53, .slice Ao55 t301.length co55, .int .i64 a2, .bool t305] 25 (0, 0)) (by (with_reducible repeat (first | refine blk_drewN ?_ _ | refine blk_drew ?_ | refine blk_alloc ?_ _)); refine blk_far ?_ NB282_317.out _; (with_reducible repeat (first | refine blk_drewN ?_ _ | refine blk_drew ?_ | refine blk_alloc ?_ _)); refine blk_far ?_ NB282_317.out _; (with_reducible repeat (first | refine blk_drewN ?_ _ | refine blk_drew ?_ | refine blk_alloc ?_ _)); refine blk_far ?_ NB282_317.out _; (with_reducible repeat (first | refine blk_drewN ?_ _ | refine blk_drew ?_ | refine blk_alloc ?_ _)); refine blk_far ?_ NB282_317.out _; (with_reducible repeat (first | refine blk_drewN ?_ _ | refine blk_drew ?_ | refine blk_alloc ?_ _)); exact BK282.out) k_ hk_), (Kd.freshB (g := gb317) (o := .cells #[.slice Ao58 t307.length co58, .slice Ao61 t310.length co61, .int .i64 t313, .bool t314] 25 (0, 0)) (by (with_reducible repeat (first | refine blk_drewN ?_ _ | refine blk_drew ?_ | refine blk_alloc ?_ _)); refine blk_put (cs := #[.slice Ao58 t307.length co58, .slice Ao61 t310.length co61, .int .i64 t313, .bool false]) ?_ 3 _ rfl; (with_reducible repeat (first | refine blk_drewN ?_ _ | refine blk_drew ?_ | refine blk_alloc ?_ _)); refine blk_put (cs := #[.slice Ao58 t307.length co58, .slice Ao61 t310.length co61, .int .i64 0, .bool false]) ?_ 2 _ rfl; (with_reducible repeat (first | refine blk_drewN ?_ _ | refine blk_drew ?_ | refine blk_alloc ?_ _)); refine blk_put (cs := #[.slice Ao58 t307.length co58, .slice none 0 0, .int .i64 0, .bool false]) ?_ 1 _ rfl; (with_reducible repeat (first | refine blk_drewN ?_ _ | refine blk_drew ?_ | refine blk_alloc ?_ _)); refine blk_put (cs := #[.slice none 0 0, .slice none 0 0, .int .i64 0, .bool false]) ?_ 0 _ rfl; (with_reducible repeat (first | refine blk_drewN ?_ _ | refine blk_drew ?_ | refine blk_alloc ?_ _)); exact BK317.out) k_ hk_)⟩)) (below_size (by repeat (first | (with_reducible first | exact HB.out | apply below_alloc | apply pw_below_drewN | apply below_drew1 | refine below_set ?_ GE282.out | refine below_set ?_ GE317.out) | exact HB.out)))); have n9_ := Aside0.mk (blk_below (g := gb282) (o := .cells #[.slice Ao53 t298.length co53, .slice Ao55 t301.length co55, .int .i64 a2, .bool t305] 25 (0, 0)) (by (with_reducible repeat (first | refine blk_drewN ?_ _ | refine blk_drew ?_ | refine blk_alloc ?_ _)); refine blk_far ?_ NB282_317.out _; (with_reducible repeat (first | refine blk_drewN ?_ _ | refine blk_drew ?_ | refine blk_alloc ?_ _)); refine blk_far ?_ NB282_317.out _; (with_reducible repeat (first | refine blk_drewN ?_ _ | refine blk_drew ?_ | refine blk_alloc ?_ _)); refine blk_far ?_ NB282_317.out _; (with_reducible repeat (first | refine blk_drewN ?_ _ | refine blk_drew ?_ | refine blk_alloc ?_ _)); refine blk_far ?_ NB282_317.out _; (with_reducible repeat (first | refine blk_drewN ?_ _ | refine blk_drew ?_ | refine blk_alloc ?_ _)); exact BK282.out) hb); have n10_ := Aside0.mk (blk_below (g := gb317) (o := .cells #[.slice Ao58 t307.length co58, .slice Ao61 t310.length co61, .int .i64 t313, .bool t314] 25 (0, 0)) (by (with_reducible repeat (first | refine blk_drewN ?_ _ | refine blk_drew ?_ | refine blk_alloc ?_ _)); refine blk_put (cs := #[.slice Ao58 t307.length co58, .slice Ao61 t310.length co61, .int .i64 t313, .bool false]) ?_ 3 _ rfl; (with_reducible repeat (first | refine blk_drewN ?_ _ | refine blk_drew ?_ | refine blk_alloc ?_ _)); refine blk_put (cs := #[.slice Ao58 t307.length co58, .slice Ao61 t310.length co61, .int .i64 0, .bool false]) ?_ 2 _ rfl; (with_reducible repeat (first | refine blk_drewN ?_ _ | refine blk_drew ?_ | refine blk_alloc ?_ _)); refine blk_put (cs := #[.slice Ao58 t307.length co58, .slice none 0 0, .int .i64 0, .bool false]) ?_ 1 _ rfl; (with_reducible repeat (first | refine blk_drewN ?_ _ | refine blk_drew ?_ | refine blk_alloc ?_ _)); refine blk_put (cs := #[.slice none 0 0, .slice none 0 0, .int .i64 0, .bool false]) ?_ 0 _ rfl; (with_reducible repeat (first | refine blk_drewN ?_ _ | refine blk_drew ?_ | refine blk_alloc ?_ _)); exact BK317.out) hb); have n11_ := Aside0.mk (below_step (by repeat (first | (with_reducible first | exact HB.out | apply below_alloc | apply pw_below_drewN | apply below_drew1 | refine below_set ?_ GE282.out | refine below_set ?_ GE317.out) | exact HB.out)) hb); clear HO_12; clear HO_283000; clear HO_283001; clear HO300; clear HO303; clear HO309; clear HO312; clear BK282; clear BK317; clear HB; have HO_12 := n0_; have HO_283000 := n1_; have HO_283001 := n2_; have HO300 := n3_; have HO303 := n4_; have HO309 := n5_; have HO312 := n6_; have HO320 := n7_; have HO323 := n8_; have BK282 := n9_; have BK317 := n10_; have HB := n11_; clear n0_ n1_ n2_ n3_ n4_ n5_ n6_ n7_ n8_ n9_ n10_ n11_; (try clear hb); (try clear hb2); (try clear hk); (try clear hi); (try clear ho0); (try clear ho1); obtain ⟨Ao67, co67, eo67⟩ := Kd.V_slice HO320.out; subst eo67; have hcz68_0 : w66.cell? ⟨gb317, 0, none⟩ = some (.slice Ao58 t307.length co58) := (blk_cell BK317.out 0).trans rfl; have hcz68_1 : w66.cell? ⟨gb317, 1, none⟩ = some (.slice Ao61 t310.length co61) := (blk_cell BK317.out 1).trans rfl; have hcz68_2 : w66.cell? ⟨gb317, 2, none⟩ = some (.int .i64 t313) := (blk_cell BK317.out 2).trans rfl; have hcz68_3 : w66.cell? ⟨gb317, 3, none⟩ = some (.bool t314) := (blk_cell BK317.out 3).trans rfl; have hfz68_0 := blk_frozen BK317.out 0; have hfz68_1 := blk_frozen BK317.out 1; have hfz68_2 := blk_frozen BK317.out 2; have hfz68_3 := blk_frozen BK317.out 3; obtain ⟨Ao69, co69, eo69⟩ := Kd.V_slice HO323.out; subst eo69))
        go_meet
        case rel => exact ⟨_, (t326), (t318), (t321), (t324), (t325), (.slice Ao67 t318.length co67), (.slice Ao69 t321.length co69), (by first | rfl | (simp; done) | (simp [*]; done)), H', ⟨by have := HJ9.out; first | omega | exact Nat.le_refl _⟩, ⟨by (with_reducible repeat (first | apply Kd.R_alloc | apply Kd.R_drewN | apply Kd.R_drew)); exact Kd.R_mono (Kd.R_far (p := ⟨gb317, 3, none⟩) (Kd.R_far (p := ⟨gb317, 2, none⟩) (Kd.R_far (p := ⟨gb317, 1, none⟩) (Kd.R_far (p := ⟨gb317, 0, none⟩) (Kd.R_types HO_12.out BK317.out (by decide)) (fun _ hk => hk.2) (.slice Ao67 t318.length co67)) (fun _ hk => hk.2) (.slice Ao69 t321.length co69)) (fun _ hk => hk.2) (.int .i64 t324)) (fun _ hk => hk.2) (.bool t325)) (fun _ hk => trivial)⟩, ⟨by (with_reducible repeat (first | apply Kd.V_alloc | apply Kd.V_drewN | apply Kd.V_drew)); exact Kd.V_mono (Kd.V_far (p := ⟨gb317, 3, none⟩) (Kd.V_far (p := ⟨gb317, 2, none⟩) (Kd.V_far (p := ⟨gb317, 1, none⟩) (Kd.V_far (p := ⟨gb317, 0, none⟩) (Kd.V_mono HO300.out (fun k_ hk => (⟨hk, hk.2⟩ : _ ∧ k_ ≠ gb317))) (fun _ hk => hk.2) (.slice Ao67 t318.length co67)) (fun _ hk => hk.2) (.slice Ao69 t321.length co69)) (fun _ hk => hk.2) (.int .i64 t324)) (fun _ hk => hk.2) (.bool t325)) (fun _ hk => ⟨hk.1.1.1, ⟨hk.1.1.2, hk.1.2⟩⟩)⟩, ⟨by (with_reducible repeat (first | apply Kd.V_alloc | apply Kd.V_drewN | apply Kd.V_drew)); exact Kd.V_mono (Kd.V_far (p := ⟨gb317, 3, none⟩) (Kd.V_far (p := ⟨gb317, 2, none⟩) (Kd.V_far (p := ⟨gb317, 1, none⟩) (Kd.V_far (p := ⟨gb317, 0, none⟩) (Kd.V_mono HO303.out (fun k_ hk => (⟨hk, hk.2⟩ : _ ∧ k_ ≠ gb317))) (fun _ hk => hk.2) (.slice Ao67 t318.length co67)) (fun _ hk => hk.2) (.slice Ao69 t321.length co69)) (fun _ hk => hk.2) (.int .i64 t324)) (fun _ hk => hk.2) (.bool t325)) (fun _ hk => ⟨hk.1.1.1, ⟨hk.1.1.2, hk.1.2⟩⟩)⟩, ⟨by (with_reducible repeat (first | apply Kd.V_alloc | apply Kd.V_drewN | apply Kd.V_drew)); exact Kd.V_mono (Kd.V_far (p := ⟨gb317, 3, none⟩) (Kd.V_far (p := ⟨gb317, 2, none⟩) (Kd.V_far (p := ⟨gb317, 1, none⟩) (Kd.V_far (p := ⟨gb317, 0, none⟩) (Kd.V_mono HO320.out (fun k_ hk => (⟨hk, hk.2.2⟩ : _ ∧ k_ ≠ gb317))) (fun _ hk => hk.2) (.slice Ao67 t318.length co67)) (fun _ hk => hk.2) (.slice Ao69 t321.length co69)) (fun _ hk => hk.2) (.int .i64 t324)) (fun _ hk => hk.2) (.bool t325)) (fun _ hk => ⟨hk.1.1, ⟨hk.1.2.1, hk.1.2.2⟩⟩)⟩, ⟨by (with_reducible repeat (first | apply Kd.V_alloc | apply Kd.V_drewN | apply Kd.V_drew)); exact Kd.V_mono (Kd.V_far (p := ⟨gb317, 3, none⟩) (Kd.V_far (p := ⟨gb317, 2, none⟩) (Kd.V_far (p := ⟨gb317, 1, none⟩) (Kd.V_far (p := ⟨gb317, 0, none⟩) (Kd.V_mono HO323.out (fun k_ hk => (⟨hk, hk.2.2⟩ : _ ∧ k_ ≠ gb317))) (fun _ hk => hk.2) (.slice Ao67 t318.length co67)) (fun _ hk => hk.2) (.slice Ao69 t321.length co69)) (fun _ hk => hk.2) (.int .i64 t324)) (fun _ hk => hk.2) (.bool t325)) (fun _ hk => ⟨hk.1.1, ⟨hk.1.2.1, hk.1.2.2⟩⟩)⟩, ⟨by (with_reducible repeat (first | refine blk_drewN ?_ _ | refine blk_drew ?_ | refine blk_alloc ?_ _)); refine blk_far ?_ NB282_317.out _; (with_reducible repeat (first | refine blk_drewN ?_ _ | refine blk_drew ?_ | refine blk_alloc ?_ _)); refine blk_far ?_ NB282_317.out _; (with_reducible repeat (first | refine blk_drewN ?_ _ | refine blk_drew ?_ | refine blk_alloc ?_ _)); refine blk_far ?_ NB282_317.out _; (with_reducible repeat (first | refine blk_drewN ?_ _ | refine blk_drew ?_ | refine blk_alloc ?_ _)); refine blk_far ?_ NB282_317.out _; (with_reducible repeat (first | refine blk_drewN ?_ _ | refine blk_drew ?_ | refine blk_alloc ?_ _)); exact BK282.out⟩, ⟨by (with_reducible repeat (first | refine blk_drewN ?_ _ | refine blk_drew ?_ | refine blk_alloc ?_ _)); refine blk_put (cs := #[.slice Ao67 t318.length co67, .slice Ao69 t321.length co69, .int .i64 t324, .bool t314]) ?_ 3 _ rfl; (with_reducible repeat (first | refine blk_drewN ?_ _ | refine blk_drew ?_ | refine blk_alloc ?_ _)); refine blk_put (cs := #[.slice Ao67 t318.length co67, .slice Ao69 t321.length co69, .int .i64 t313, .bool t314]) ?_ 2 _ rfl; (with_reducible repeat (first | refine blk_drewN ?_ _ | refine blk_drew ?_ | refine blk_alloc ?_ _)); refine blk_put (cs := #[.slice Ao67 t318.length co67, .slice Ao61 t310.length co61, .int .i64 t313, .bool t314]) ?_ 1 _ rfl; (with_reducible repeat (first | refine blk_drewN ?_ _ | refine blk_drew ?_ | refine blk_alloc ?_ _)); refine blk_put (cs := #[.slice Ao58 t307.length co58, .slice Ao61 t310.length co61, .int .i64 t313, .bool t314]) ?_ 0 _ rfl; (with_reducible repeat (first | refine blk_drewN ?_ _ | refine blk_drew ?_ | refine blk_alloc ?_ _)); exact BK317.out⟩, ⟨by repeat (first | (with_reducible first | exact HB.out | apply below_alloc | apply pw_below_drewN | apply below_drew1 | refine below_set ?_ GE282.out | refine below_set ?_ GE317.out) | exact HB.out)⟩⟩
       ·rw [if_neg c62] at H
        have c62b0 : (t316 == 0) = false := beq_eq_false_iff_ne.mpr c62
        have c62b1 : (t316 != 0) = true := bne_iff_ne.mpr c62
        (first | rw [c62b0] | (simp only [i64_w, i32_w]; rw [c62b0]) | skip)
        have H' := Aside0.mk H
        clear H
        go_wp2
        go_meet
        case rel => exact ⟨_, (t316), (t307), (t310), (t313), (t314), (.slice Ao58 t307.length co58), (.slice Ao61 t310.length co61), (by first | rfl | (simp; done) | (simp [*]; done)), H', ⟨by have := HJ9.out; first | omega | exact Nat.le_refl _⟩, ⟨by (with_reducible repeat (first | apply Kd.R_alloc | apply Kd.R_drewN | apply Kd.R_drew)); exact Kd.R_mono (Kd.R_far (p := ⟨gb317, 3, none⟩) (Kd.R_far (p := ⟨gb317, 2, none⟩) (Kd.R_far (p := ⟨gb317, 1, none⟩) (Kd.R_far (p := ⟨gb317, 0, none⟩) (Kd.R_types HO_12.out BK317.out (by decide)) (fun _ hk => hk.2) (.slice Ao58 t307.length co58)) (fun _ hk => hk.2) (.slice Ao61 t310.length co61)) (fun _ hk => hk.2) (.int .i64 t313)) (fun _ hk => hk.2) (.bool t314)) (fun _ hk => trivial)⟩, ⟨by (with_reducible repeat (first | apply Kd.V_alloc | apply Kd.V_drewN | apply Kd.V_drew)); exact Kd.V_mono (Kd.V_far (p := ⟨gb317, 3, none⟩) (Kd.V_far (p := ⟨gb317, 2, none⟩) (Kd.V_far (p := ⟨gb317, 1, none⟩) (Kd.V_far (p := ⟨gb317, 0, none⟩) (Kd.V_mono HO300.out (fun k_ hk => (⟨hk, hk.2⟩ : _ ∧ k_ ≠ gb317))) (fun _ hk => hk.2) (.slice Ao58 t307.length co58)) (fun _ hk => hk.2) (.slice Ao61 t310.length co61)) (fun _ hk => hk.2) (.int .i64 t313)) (fun _ hk => hk.2) (.bool t314)) (fun _ hk => ⟨hk.1.1.1, ⟨hk.1.1.2, hk.1.2⟩⟩)⟩, ⟨by (with_reducible repeat (first | apply Kd.V_alloc | apply Kd.V_drewN | apply Kd.V_drew)); exact Kd.V_mono (Kd.V_far (p := ⟨gb317, 3, none⟩) (Kd.V_far (p := ⟨gb317, 2, none⟩) (Kd.V_far (p := ⟨gb317, 1, none⟩) (Kd.V_far (p := ⟨gb317, 0, none⟩) (Kd.V_mono HO303.out (fun k_ hk => (⟨hk, hk.2⟩ : _ ∧ k_ ≠ gb317))) (fun _ hk => hk.2) (.slice Ao58 t307.length co58)) (fun _ hk => hk.2) (.slice Ao61 t310.length co61)) (fun _ hk => hk.2) (.int .i64 t313)) (fun _ hk => hk.2) (.bool t314)) (fun _ hk => ⟨hk.1.1.1, ⟨hk.1.1.2, hk.1.2⟩⟩)⟩, ⟨by (with_reducible repeat (first | apply Kd.V_alloc | apply Kd.V_drewN | apply Kd.V_drew)); exact Kd.V_mono (Kd.V_far (p := ⟨gb317, 3, none⟩) (Kd.V_far (p := ⟨gb317, 2, none⟩) (Kd.V_far (p := ⟨gb317, 1, none⟩) (Kd.V_far (p := ⟨gb317, 0, none⟩) (Kd.V_mono HO309.out (fun k_ hk => (⟨hk, hk.2⟩ : _ ∧ k_ ≠ gb317))) (fun _ hk => hk.2) (.slice Ao58 t307.length co58)) (fun _ hk => hk.2) (.slice Ao61 t310.length co61)) (fun _ hk => hk.2) (.int .i64 t313)) (fun _ hk => hk.2) (.bool t314)) (fun _ hk => ⟨hk.1.1.1, ⟨hk.1.1.2, hk.1.2⟩⟩)⟩, ⟨by (with_reducible repeat (first | apply Kd.V_alloc | apply Kd.V_drewN | apply Kd.V_drew)); exact Kd.V_mono (Kd.V_far (p := ⟨gb317, 3, none⟩) (Kd.V_far (p := ⟨gb317, 2, none⟩) (Kd.V_far (p := ⟨gb317, 1, none⟩) (Kd.V_far (p := ⟨gb317, 0, none⟩) (Kd.V_mono HO312.out (fun k_ hk => (⟨hk, hk.2⟩ : _ ∧ k_ ≠ gb317))) (fun _ hk => hk.2) (.slice Ao58 t307.length co58)) (fun _ hk => hk.2) (.slice Ao61 t310.length co61)) (fun _ hk => hk.2) (.int .i64 t313)) (fun _ hk => hk.2) (.bool t314)) (fun _ hk => ⟨hk.1.1.1, ⟨hk.1.1.2, hk.1.2⟩⟩)⟩, ⟨by (with_reducible repeat (first | refine blk_drewN ?_ _ | refine blk_drew ?_ | refine blk_alloc ?_ _)); refine blk_far ?_ NB282_317.out _; (with_reducible repeat (first | refine blk_drewN ?_ _ | refine blk_drew ?_ | refine blk_alloc ?_ _)); refine blk_far ?_ NB282_317.out _; (with_reducible repeat (first | refine blk_drewN ?_ _ | refine blk_drew ?_ | refine blk_alloc ?_ _)); refine blk_far ?_ NB282_317.out _; (with_reducible repeat (first | refine blk_drewN ?_ _ | refine blk_drew ?_ | refine blk_alloc ?_ _)); refine blk_far ?_ NB282_317.out _; (with_reducible repeat (first | refine blk_drewN ?_ _ | refine blk_drew ?_ | refine blk_alloc ?_ _)); exact BK282.out⟩, ⟨by (with_reducible repeat (first | refine blk_drewN ?_ _ | refine blk_drew ?_ | refine blk_alloc ?_ _)); refine blk_put (cs := #[.slice Ao58 t307.length co58, .slice Ao61 t310.length co61, .int .i64 t313, .bool false]) ?_ 3 _ rfl; (with_reducible repeat (first | refine blk_drewN ?_ _ | refine blk_drew ?_ | refine blk_alloc ?_ _)); refine blk_put (cs := #[.slice Ao58 t307.length co58, .slice Ao61 t310.length co61, .int .i64 0, .bool false]) ?_ 2 _ rfl; (with_reducible repeat (first | refine blk_drewN ?_ _ | refine blk_drew ?_ | refine blk_alloc ?_ _)); refine blk_put (cs := #[.slice Ao58 t307.length co58, .slice none 0 0, .int .i64 0, .bool false]) ?_ 1 _ rfl; (with_reducible repeat (first | refine blk_drewN ?_ _ | refine blk_drew ?_ | refine blk_alloc ?_ _)); refine blk_put (cs := #[.slice none 0 0, .slice none 0 0, .int .i64 0, .bool false]) ?_ 0 _ rfl; (with_reducible repeat (first | refine blk_drewN ?_ _ | refine blk_drew ?_ | refine blk_alloc ?_ _)); exact BK317.out⟩, ⟨by repeat (first | (with_reducible first | exact HB.out | apply below_alloc | apply pw_below_drewN | apply below_drew1 | refine below_set ?_ GE282.out | refine below_set ?_ GE317.out) | exact HB.out)⟩⟩
      case rest =>
       clear HC48
       try clear c1
       try clear c2
       try clear p2
       try clear q2
       try clear hx2
       try clear c3
       try clear c4
       try clear c5
       try clear c6
       try clear p6
       try clear c7
       try clear c7b0
       try clear c11
       try clear c14
       try clear c15
       try clear c17
       try clear c17b0
       try clear c18
       try clear c18b0
       try clear c19
       try clear c19b0
       try clear c21
       try clear c21b0
       try clear c21b1
       try clear c22
       try clear c24
       try clear c24b0
       try clear c24b1
       try clear c25
       try clear p28
       try clear q28
       try clear hx28
       try clear c32
       try clear c43
       try clear c59
       try clear c62
       try clear c62b0
       try clear c62b1
       try clear c64
       try clear p64
       try clear hcz15_0
       try clear hcz15_1
       try clear hcz15_2
       try clear hcz15_3
       try clear hcz26_0
       try clear hcz26_1
       try clear hcz26_2
       try clear hcz26_3
       try clear hcz33_0
       try clear hcz33_1
       try clear hcz33_2
       try clear hcz33_3
       try clear hcz35_0
       try clear hcz35_1
       try clear hcz35_2
       try clear hcz35_3
       try clear hcz37_0
       try clear hcz37_1
       try clear hcz37_2
       try clear hcz37_3
       try clear hcz44_0
       try clear hcz44_1
       try clear hcz44_2
       try clear hcz44_3
       try clear hcz49_0
       try clear hcz49_1
       try clear hcz49_2
       try clear hcz49_3
       try clear hcz54_0
       try clear hcz54_1
       try clear hcz54_2
       try clear hcz54_3
       try clear hcz60_0
       try clear hcz60_1
       try clear hcz60_2
       try clear hcz60_3
       try clear hcz65_0
       try clear hcz65_1
       try clear hcz65_2
       try clear hcz65_3
       try clear hcz68_0
       try clear hcz68_1
       try clear hcz68_2
       try clear hcz68_3
       try clear hfz15_0
       try clear hfz15_1
       try clear hfz15_2
       try clear hfz15_3
       try clear hfz26_0
       try clear hfz26_1
       try clear hfz26_2
       try clear hfz26_3
       try clear hfz33_0
       try clear hfz33_1
       try clear hfz33_2
       try clear hfz33_3
       try clear hfz35_0
       try clear hfz35_1
       try clear hfz35_2
       try clear hfz35_3
       try clear hfz37_0
       try clear hfz37_1
       try clear hfz37_2
       try clear hfz37_3
       try clear hfz44_0
       try clear hfz44_1
       try clear hfz44_2
       try clear hfz44_3
       try clear hfz49_0
       try clear hfz49_1
       try clear hfz49_2
       try clear hfz49_3
       try clear hfz54_0
       try clear hfz54_1
       try clear hfz54_2
       try clear hfz54_3
       try clear hfz60_0
       try clear hfz60_1
       try clear hfz60_2
       try clear hfz60_3
       try clear hfz65_0
       try clear hfz65_1
       try clear hfz65_2
       try clear hfz65_3
       try clear hfz68_0
       try clear hfz68_1
       try clear hfz68_2
       try clear hfz68_3
       try clear hx283_0
       try clear p2
       try clear p28
       try clear p283
       try clear p6
       try clear q2
       try clear q28
       try clear q283
       obtain ⟨kq, x21_47, x318000_47, x318001_47, x318002_47, x318003_47, u318000, u318001, rfl, HA, HJ47, HO_12, HO_283000, HO_283001, HO_318000, HO_318001, BK282, BK317, HB⟩ := hcut
       cases kq with
       | zero => exact absurd HA.out (by simp [bellmanlaw04_TrailTorn.j3])
       | succ kj47 =>
        have H := HA.out
        clear HA
        simp only [bellmanlaw04_TrailTorn.j3] at H
        replace H := Option.bind_eq_some_iff.mp H
        obtain ⟨⟨t327, t330, t333, t334, t335⟩, A700, H⟩ := H
        replace H : ((trail_Read.f t327 t330 t333 t334 0 64).bind fun bt337 => (if t306 = 0 then (if t335 = 0 then (if bt337.2.2 = 0 then (if 0 ≤ (mn (bt337.1.length : Int) (x12_9.length : Int)) then (if (mn (bt337.1.length : Int) (x12_9.length : Int)) ≤ (bt337.1.length : Int) then ((bellmanref01_SameTexts.f kj47 (bt337.1.take ((mn (bt337.1.length : Int) (x12_9.length : Int)) : Int).toNat) x12_9).bind fun t347 => (bellmanlaw04_TrailTorn.j4 kj47 a1 x11_9 x12_9 t315 x21_47 bt337.1 bt337.2.1 (!t347))) else (none)) else (none)) else (bellmanlaw04_TrailTorn.j4 kj47 a1 x11_9 x12_9 t315 x21_47 bt337.1 bt337.2.1 true)) else (bellmanlaw04_TrailTorn.j4 kj47 a1 x11_9 x12_9 t315 x21_47 bt337.1 bt337.2.1 true)) else (bellmanlaw04_TrailTorn.j4 kj47 a1 x11_9 x12_9 t315 x21_47 bt337.1 bt337.2.1 true))) = some r := H
        have A70 := Aside0.mk A700
        clear A700
        replace H := Option.bind_eq_some_iff.mp H
        obtain ⟨⟨t337, t340, t341⟩, A710, H⟩ := H
        replace H : (if t306 = 0 then (if t335 = 0 then (if t341 = 0 then (if 0 ≤ (mn (t337.length : Int) (x12_9.length : Int)) then (if (mn (t337.length : Int) (x12_9.length : Int)) ≤ (t337.length : Int) then ((bellmanref01_SameTexts.f kj47 (t337.take ((mn (t337.length : Int) (x12_9.length : Int)) : Int).toNat) x12_9).bind fun t347 => (bellmanlaw04_TrailTorn.j4 kj47 a1 x11_9 x12_9 t315 x21_47 t337 t340 (!t347))) else (none)) else (none)) else (bellmanlaw04_TrailTorn.j4 kj47 a1 x11_9 x12_9 t315 x21_47 t337 t340 true)) else (bellmanlaw04_TrailTorn.j4 kj47 a1 x11_9 x12_9 t315 x21_47 t337 t340 true)) else (bellmanlaw04_TrailTorn.j4 kj47 a1 x11_9 x12_9 t315 x21_47 t337 t340 true)) = some r := H
        have A71 := Aside0.mk A710
        clear A710
        have HC72 := Aside0.mk H
        clear H
        have hnb73 := NB317_282.out
        have hnc73 := NB282_317.out
        have hcz74_0 : wc.cell? ⟨gb317, 0, none⟩ = some (u318000) := (blk_cell BK317.out 0).trans rfl
        have hcz74_1 : wc.cell? ⟨gb317, 1, none⟩ = some (u318001) := (blk_cell BK317.out 1).trans rfl
        have hcz74_2 : wc.cell? ⟨gb317, 2, none⟩ = some (.int .i64 x318002_47) := (blk_cell BK317.out 2).trans rfl
        have hcz74_3 : wc.cell? ⟨gb317, 3, none⟩ = some (.bool x318003_47) := (blk_cell BK317.out 3).trans rfl
        have hfz74_0 := blk_frozen BK317.out 0
        have hfz74_1 := blk_frozen BK317.out 1
        have hfz74_2 := blk_frozen BK317.out 2
        have hfz74_3 := blk_frozen BK317.out 3
        obtain ⟨Ao75, co75, eo75⟩ := Kd.V_slice HO_318000.out
        subst eo75
        obtain ⟨Ao76, co76, eo76⟩ := Kd.V_slice HO_318001.out
        subst eo76
        go_upto_region 25 with (first | ((with_reducible refine gate_callee (f := 16) rfl ?_); refine goesL_ (some 91) rfl rfl Tryd.func16 (by kernel_rfl) rfl #[.agg #[.slice Ao75 x318000_47.length co75, .slice Ao76 x318001_47.length co76, .int .i64 x318002_47, .bool x318003_47], .slice A3 l3.length c3] rfl (by (try simp only [List.map_toArray, List.map_cons, List.map_nil]); first | done | rfl | (simp only [List.length_drop, List.length_take]; rfl)) ?_; (with_reducible refine (block_Crash.calls _ _ x318000_47 _ _ x318001_47 x318002_47 x318003_47 _ _ l3 t327 t330 t333 t334 t335 _ ?side1 ?side2 ?side3 ?side4 ?side5 ?side6 A70.out).mono ?_); (case side1 => repeat (first | exact (Kd.V_reads' HO_318000.out).2.2 | (with_reducible refine Kd.C_alloc ?_ _) | (with_reducible refine Kd.C_drewN ?_ _) | (with_reducible refine Kd.C_drew ?_))); (case side2 => exact (Kd.V_reads' HO_318000.out).2.1); (case side3 => repeat (first | exact (Kd.V_reads' HO_318001.out).2.2 | (with_reducible refine Kd.C_alloc ?_ _) | (with_reducible refine Kd.C_drewN ?_ _) | (with_reducible refine Kd.C_drew ?_))); (case side4 => exact (Kd.V_reads' HO_318001.out).2.1); (case side5 => repeat (first | exact (Kd.C_below HR3.out HB.out) | (with_reducible refine Kd.C_alloc ?_ _) | (with_reducible refine Kd.C_drewN ?_ _) | (with_reducible refine Kd.C_drew ?_))); (case side6 => exact HC3.out); rintro e w77 ⟨v328, v331, rfl, ho0, ho1, hb⟩; refine ⟨_, rfl, ?_⟩; have n0_ := Aside0.mk (Kd.R_below (by (with_reducible repeat (first | apply Kd.R_alloc | apply Kd.R_drewN | apply Kd.R_drew)); exact HO_12.out) hb); have n1_ := Aside0.mk (Kd.V_below (by (with_reducible repeat (first | apply Kd.V_alloc | apply Kd.V_drewN | apply Kd.V_drew)); exact HO_283000.out) hb); have n2_ := Aside0.mk (Kd.V_below (by (with_reducible repeat (first | apply Kd.V_alloc | apply Kd.V_drewN | apply Kd.V_drew)); exact HO_283001.out) hb); have n3_ := Aside0.mk (Kd.V_below (by (with_reducible repeat (first | apply Kd.V_alloc | apply Kd.V_drewN | apply Kd.V_drew)); exact HO_318000.out) hb); have n4_ := Aside0.mk (Kd.V_below (by (with_reducible repeat (first | apply Kd.V_alloc | apply Kd.V_drewN | apply Kd.V_drew)); exact HO_318001.out) hb); have n5_ := Aside0.mk (Kd.V_lower (Kd.V_mono (ok' := fun k_ => some k_ ≠ (u12 : Value).ownBlock ∧ k_ ≠ gb282 ∧ k_ ≠ gb317) ho0 (fun k_ hk_ => ⟨(Kd.fresh' (Kd.R_lt (by (with_reducible repeat (first | apply Kd.R_alloc | apply Kd.R_drewN | apply Kd.R_drew)); exact HO_12.out)) k_ hk_), (Kd.freshB (g := gb282) (o := .cells #[.slice Ao53 t298.length co53, .slice Ao55 t301.length co55, .int .i64 a2, .bool t305] 25 (0, 0)) (by (with_reducible repeat (first | refine blk_drewN ?_ _ | refine blk_drew ?_ | refine blk_alloc ?_ _)); exact BK282.out) k_ hk_), (Kd.freshB (g := gb317) (o := .cells #[.slice Ao75 x318000_47.length co75, .slice Ao76 x318001_47.length co76, .int .i64 x318002_47, .bool x318003_47] 25 (0, 0)) (by (with_reducible repeat (first | refine blk_drewN ?_ _ | refine blk_drew ?_ | refine blk_alloc ?_ _)); exact BK317.out) k_ hk_)⟩)) (below_size (by repeat (first | (with_reducible first | exact HB.out | apply below_alloc | apply pw_below_drewN | apply below_drew1 | refine below_set ?_ GE282.out | refine below_set ?_ GE317.out) | exact HB.out)))); have n6_ := Aside0.mk (Kd.V_lower (Kd.V_mono (ok' := fun k_ => some k_ ≠ (u12 : Value).ownBlock ∧ k_ ≠ gb282 ∧ k_ ≠ gb317) ho1 (fun k_ hk_ => ⟨(Kd.fresh' (Kd.R_lt (by (with_reducible repeat (first | apply Kd.R_alloc | apply Kd.R_drewN | apply Kd.R_drew)); exact HO_12.out)) k_ hk_), (Kd.freshB (g := gb282) (o := .cells #[.slice Ao53 t298.length co53, .slice Ao55 t301.length co55, .int .i64 a2, .bool t305] 25 (0, 0)) (by (with_reducible repeat (first | refine blk_drewN ?_ _ | refine blk_drew ?_ | refine blk_alloc ?_ _)); exact BK282.out) k_ hk_), (Kd.freshB (g := gb317) (o := .cells #[.slice Ao75 x318000_47.length co75, .slice Ao76 x318001_47.length co76, .int .i64 x318002_47, .bool x318003_47] 25 (0, 0)) (by (with_reducible repeat (first | refine blk_drewN ?_ _ | refine blk_drew ?_ | refine blk_alloc ?_ _)); exact BK317.out) k_ hk_)⟩)) (below_size (by repeat (first | (with_reducible first | exact HB.out | apply below_alloc | apply pw_below_drewN | apply below_drew1 | refine below_set ?_ GE282.out | refine below_set ?_ GE317.out) | exact HB.out)))); have n7_ := Aside0.mk (blk_below (g := gb282) (o := .cells #[.slice Ao53 t298.length co53, .slice Ao55 t301.length co55, .int .i64 a2, .bool t305] 25 (0, 0)) (by (with_reducible repeat (first | refine blk_drewN ?_ _ | refine blk_drew ?_ | refine blk_alloc ?_ _)); exact BK282.out) hb); have n8_ := Aside0.mk (blk_below (g := gb317) (o := .cells #[.slice Ao75 x318000_47.length co75, .slice Ao76 x318001_47.length co76, .int .i64 x318002_47, .bool x318003_47] 25 (0, 0)) (by (with_reducible repeat (first | refine blk_drewN ?_ _ | refine blk_drew ?_ | refine blk_alloc ?_ _)); exact BK317.out) hb); have n9_ := Aside0.mk (below_step (by repeat (first | (with_reducible first | exact HB.out | apply below_alloc | apply pw_below_drewN | apply below_drew1 | refine below_set ?_ GE282.out | refine below_set ?_ GE317.out) | exact HB.out)) hb); clear HO_12; clear HO_283000; clear HO_283001; clear HO_318000; clear HO_318001; clear BK282; clear BK317; clear HB; have HO_12 := n0_; have HO_283000 := n1_; have HO_283001 := n2_; have HO_318000 := n3_; have HO_318001 := n4_; have HO329 := n5_; have HO332 := n6_; have BK282 := n7_; have BK317 := n8_; have HB := n9_; clear n0_ n1_ n2_ n3_ n4_ n5_ n6_ n7_ n8_ n9_; (try clear hb); (try clear hb2); (try clear hk); (try clear hi); (try clear ho0); (try clear ho1)) | ((with_reducible refine gate_dst (N := 22) rfl ?_); (try (refine gate_guard (by rfl) ?_; dsimp only)); refine box_event ?hg (N := 22) ?hd (cs := #[.slice none 0 0, .slice none 0 0, .int .i64 0, .bool false]) (t := 25) ?hr ?_; (case hd => rfl); (case hg => rfl); (case hr => first | (go_simp; done) | (go_simp; rfl)); intro gb336 hg w78 hbox hb; have n0_ := Aside0.mk (Kd.R_below (by (with_reducible repeat (first | apply Kd.R_alloc | apply Kd.R_drewN | apply Kd.R_drew)); exact HO_12.out) hb); have n1_ := Aside0.mk (Kd.V_below (Kd.V_elderB (by (with_reducible repeat (first | apply Kd.V_alloc | apply Kd.V_drewN | apply Kd.V_drew)); exact HO_283000.out) gb336 (Nat.le_of_eq hg.symm)) hb); have n2_ := Aside0.mk (Kd.V_below (Kd.V_elderB (by (with_reducible repeat (first | apply Kd.V_alloc | apply Kd.V_drewN | apply Kd.V_drew)); exact HO_283001.out) gb336 (Nat.le_of_eq hg.symm)) hb); have n3_ := Aside0.mk (Kd.V_below (Kd.V_elderB (by (with_reducible repeat (first | apply Kd.V_alloc | apply Kd.V_drewN | apply Kd.V_drew)); exact HO_318000.out) gb336 (Nat.le_of_eq hg.symm)) hb); have n4_ := Aside0.mk (Kd.V_below (Kd.V_elderB (by (with_reducible repeat (first | apply Kd.V_alloc | apply Kd.V_drewN | apply Kd.V_drew)); exact HO_318001.out) gb336 (Nat.le_of_eq hg.symm)) hb); have n5_ := Aside0.mk (Kd.V_below (Kd.V_elderB (by (with_reducible repeat (first | apply Kd.V_alloc | apply Kd.V_drewN | apply Kd.V_drew)); exact HO329.out) gb336 (Nat.le_of_eq hg.symm)) hb); have n6_ := Aside0.mk (Kd.V_below (Kd.V_elderB (by (with_reducible repeat (first | apply Kd.V_alloc | apply Kd.V_drewN | apply Kd.V_drew)); exact HO332.out) gb336 (Nat.le_of_eq hg.symm)) hb); have n7_ := Aside0.mk (blk_below (g := gb282) (o := .cells #[.slice Ao53 t298.length co53, .slice Ao55 t301.length co55, .int .i64 a2, .bool t305] 25 (0, 0)) (by (with_reducible repeat (first | refine blk_drewN ?_ _ | refine blk_drew ?_ | refine blk_alloc ?_ _)); exact BK282.out) hb); have n8_ := Aside0.mk (blk_below (g := gb317) (o := .cells #[.slice Ao75 x318000_47.length co75, .slice Ao76 x318001_47.length co76, .int .i64 x318002_47, .bool x318003_47] 25 (0, 0)) (by (with_reducible repeat (first | refine blk_drewN ?_ _ | refine blk_drew ?_ | refine blk_alloc ?_ _)); exact BK317.out) hb); have n9_ := Aside0.mk (below_step (by repeat (first | (with_reducible first | exact HB.out | apply below_alloc | apply pw_below_drewN | apply below_drew1 | refine below_set ?_ GE282.out | refine below_set ?_ GE317.out) | exact HB.out)) hb); have n10_ := Aside0.mk (hbox); have n11_ := Aside0.mk ((by rw [hg]; exact (below_size (by repeat (first | (with_reducible first | exact HB.out | apply below_alloc | apply pw_below_drewN | apply below_drew1 | refine below_set ?_ GE282.out | refine below_set ?_ GE317.out) | exact HB.out))) : w.heap.size ≤ gb336)); have n12_ := Aside0.mk ((by rw [hg]; exact (below_size (by repeat (first | (with_reducible first | exact HB.out | apply below_alloc | apply pw_below_drewN | apply below_drew1 | refine below_set ?_ GE282.out | refine below_set ?_ GE317.out) | exact HB.out))) : w.heap.size ≤ gb336)); have n13_ := Aside0.mk ((by rw [hg]; exact Nat.ne_of_lt (blk_lt (g := gb282) (o := .cells #[.slice Ao53 t298.length co53, .slice Ao55 t301.length co55, .int .i64 a2, .bool t305] 25 (0, 0)) (by (with_reducible repeat (first | refine blk_drewN ?_ _ | refine blk_drew ?_ | refine blk_alloc ?_ _)); exact BK282.out)) : gb282 ≠ gb336)); have n14_ := Aside0.mk ((by rw [hg]; exact Nat.ne_of_gt (blk_lt (g := gb282) (o := .cells #[.slice Ao53 t298.length co53, .slice Ao55 t301.length co55, .int .i64 a2, .bool t305] 25 (0, 0)) (by (with_reducible repeat (first | refine blk_drewN ?_ _ | refine blk_drew ?_ | refine blk_alloc ?_ _)); exact BK282.out)) : gb336 ≠ gb282)); have n15_ := Aside0.mk ((by rw [hg]; exact Nat.ne_of_lt (blk_lt (g := gb317) (o := .cells #[.slice Ao75 x318000_47.length co75, .slice Ao76 x318001_47.length co76, .int .i64 x318002_47, .bool x318003_47] 25 (0, 0)) (by (with_reducible repeat (first | refine blk_drewN ?_ _ | refine blk_drew ?_ | refine blk_alloc ?_ _)); exact BK317.out)) : gb317 ≠ gb336)); have n16_ := Aside0.mk ((by rw [hg]; exact Nat.ne_of_gt (blk_lt (g := gb317) (o := .cells #[.slice Ao75 x318000_47.length co75, .slice Ao76 x318001_47.length co76, .int .i64 x318002_47, .bool x318003_47] 25 (0, 0)) (by (with_reducible repeat (first | refine blk_drewN ?_ _ | refine blk_drew ?_ | refine blk_alloc ?_ _)); exact BK317.out)) : gb336 ≠ gb317)); clear HO_12; clear HO_283000; clear HO_283001; clear HO_318000; clear HO_318001; clear HO329; clear HO332; clear BK282; clear BK317; clear HB; have HO_12 := n0_; have HO_283000 := n1_; have HO_283001 := n2_; have HO_318000 := n3_; have HO_318001 := n4_; have HO329 := n5_; have HO332 := n6_; have BK282 := n7_; have BK317 := n8_; have HB := n9_; have BK336 := n10_; have GW336 := n11_; have GE336 := n12_; have NB282_336 := n13_; have NB336_282 := n14_; have NB317_336 := n15_; have NB336_317 := n16_; clear n0_ n1_ n2_ n3_ n4_ n5_ n6_ n7_ n8_ n9_ n10_ n11_ n12_ n13_ n14_ n15_ n16_; clear hb hbox hg; obtain ⟨Ao79, co79, eo79⟩ := Kd.V_slice HO329.out; subst eo79; have hnb80 := NB336_282.out; have hnc80 := NB282_336.out; have hnb81 := NB336_317.out; have hnc81 := NB317_336.out; have hcz82_0 : w78.cell? ⟨gb336, 0, none⟩ = some (.slice none 0 0) := (blk_cell BK336.out 0).trans rfl; have hcz82_1 : w78.cell? ⟨gb336, 1, none⟩ = some (.slice none 0 0) := (blk_cell BK336.out 1).trans rfl; have hcz82_2 : w78.cell? ⟨gb336, 2, none⟩ = some (.int .i64 0) := (blk_cell BK336.out 2).trans rfl; have hcz82_3 : w78.cell? ⟨gb336, 3, none⟩ = some (.bool false) := (blk_cell BK336.out 3).trans rfl; have hfz82_0 := blk_frozen BK336.out 0; have hfz82_1 := blk_frozen BK336.out 1; have hfz82_2 := blk_frozen BK336.out 2; have hfz82_3 := blk_frozen BK336.out 3; obtain ⟨Ao83, co83, eo83⟩ := Kd.V_slice HO332.out; subst eo83) | ((with_reducible refine gate_callee (f := 9) rfl ?_); refine goesL_ (some 96) rfl rfl Tryd.func9 (by kernel_rfl) rfl #[.agg #[.slice Ao79 t327.length co79, .slice Ao83 t330.length co83, .int .i64 t333, .bool t334], .int .i64 0, .int .i64 64] rfl (by (try simp only [List.map_toArray, List.map_cons, List.map_nil]); first | done | rfl | (simp only [List.length_drop, List.length_take]; rfl)) ?_; (with_reducible refine (trail_Read.calls _ _ t327 _ _ t330 t333 t334 0 64 t337 t340 t341 _ ?side1 ?side2 ?side3 ?side4 A71.out).mono ?_); (case side1 => refine (Kd.V_reads' (e := 9) (base := w.heap.size) (ok := fun k_ => ((some k_ ≠ (u12 : Value).ownBlock ∧ (k_ ≠ gb282 ∧ k_ ≠ gb317)) ∧ k_ ≠ gb336)) (n := t327.length) (c := co79) ?_).2.2; exact (by (with_reducible repeat (first | apply Kd.V_alloc | apply Kd.V_drewN | apply Kd.V_drew)); exact (Kd.V_mono (Kd.V_far (p := ⟨gb336, 3, none⟩) (Kd.V_far (p := ⟨gb336, 2, none⟩) (Kd.V_far (p := ⟨gb336, 1, none⟩) (Kd.V_far (p := ⟨gb336, 0, none⟩) (Kd.V_mono HO329.out (fun k_ hk => (⟨hk, hk.2⟩ : _ ∧ k_ ≠ gb336))) (fun _ hk => hk.2) (.slice Ao79 t327.length co79)) (fun _ hk => hk.2) (.slice Ao83 t330.length co83)) (fun _ hk => hk.2) (.int .i64 t333)) (fun _ hk => hk.2) (.bool t334)) (fun _ h_ => h_.1)))); (case side2 => exact (Kd.V_reads' HO329.out).2.1); (case side3 => refine (Kd.V_reads' (e := 60) (base := w.heap.size) (ok := fun k_ => ((some k_ ≠ (u12 : Value).ownBlock ∧ (k_ ≠ gb282 ∧ k_ ≠ gb317)) ∧ k_ ≠ gb336)) (n := t330.length) (c := co83) ?_).2.2; exact (by (with_reducible repeat (first | apply Kd.V_alloc | apply Kd.V_drewN | apply Kd.V_drew)); exact (Kd.V_mono (Kd.V_far (p := ⟨gb336, 3, none⟩) (Kd.V_far (p := ⟨gb336, 2, none⟩) (Kd.V_far (p := ⟨gb336, 1, none⟩) (Kd.V_far (p := ⟨gb336, 0, none⟩) (Kd.V_mono HO332.out (fun k_ hk => (⟨hk, hk.2⟩ : _ ∧ k_ ≠ gb336))) (fun _ hk => hk.2) (.slice Ao79 t327.length co79)) (fun _ hk => hk.2) (.slice Ao83 t330.length co83)) (fun _ hk => hk.2) (.int .i64 t333)) (fun _ hk => hk.2) (.bool t334)) (fun _ h_ => h_.1)))); (case side4 => exact (Kd.V_reads' HO332.out).2.1); rintro e w84 ⟨v338, rfl, ho0, hb⟩; refine ⟨_, rfl, ?_⟩; have n0_ := Aside0.mk (Kd.R_below (by (with_reducible repeat (first | apply Kd.R_alloc | apply Kd.R_drewN | apply Kd.R_drew)); exact (Kd.R_mono (Kd.R_far (p := ⟨gb336, 3, none⟩) (Kd.R_far (p := ⟨gb336, 2, none⟩) (Kd.R_far (p := ⟨gb336, 1, none⟩) (Kd.R_far (p := ⟨gb336, 0, none⟩) (Kd.R_types HO_12.out BK336.out (by decide)) (fun _ hk => hk.2) (.slice Ao79 t327.length co79)) (fun _ hk => hk.2) (.slice Ao83 t330.length co83)) (fun _ hk => hk.2) (.int .i64 t333)) (fun _ hk => hk.2) (.bool t334)) (fun _ h_ => h_.1))) hb); have n1_ := Aside0.mk (Kd.V_below (by (with_reducible repeat (first | apply Kd.V_alloc | apply Kd.V_drewN | apply Kd.V_drew)); exact (Kd.V_mono (Kd.V_far (p := ⟨gb336, 3, none⟩) (Kd.V_far (p := ⟨gb336, 2, none⟩) (Kd.V_far (p := ⟨gb336, 1, none⟩) (Kd.V_far (p := ⟨gb336, 0, none⟩) (Kd.V_mono HO_283000.out (fun k_ hk => (⟨hk, hk.2⟩ : _ ∧ k_ ≠ gb336))) (fun _ hk => hk.2) (.slice Ao79 t327.length co79)) (fun _ hk => hk.2) (.slice Ao83 t330.length co83)) (fun _ hk => hk.2) (.int .i64 t333)) (fun _ hk => hk.2) (.bool t334)) (fun _ h_ => h_.1))) hb); have n2_ := Aside0.mk (Kd.V_below (by (with_reducible repeat (first | apply Kd.V_alloc | apply Kd.V_drewN | apply Kd.V_drew)); exact (Kd.V_mono (Kd.V_far (p := ⟨gb336, 3, none⟩) (Kd.V_far (p := ⟨gb336, 2, none⟩) (Kd.V_far (p := ⟨gb336, 1, none⟩) (Kd.V_far (p := ⟨gb336, 0, none⟩) (Kd.V_mono HO_283001.out (fun k_ hk => (⟨hk, hk.2⟩ : _ ∧ k_ ≠ gb336))) (fun _ hk => hk.2) (.slice Ao79 t327.length co79)) (fun _ hk => hk.2) (.slice Ao83 t330.length co83)) (fun _ hk => hk.2) (.int .i64 t333)) (fun _ hk => hk.2) (.bool t334)) (fun _ h_ => h_.1))) hb); have n3_ := Aside0.mk (Kd.V_below (by (with_reducible repeat (first | apply Kd.V_alloc | apply Kd.V_drewN | apply Kd.V_drew)); exact (Kd.V_mono (Kd.V_far (p := ⟨gb336, 3, none⟩) (Kd.V_far (p := ⟨gb336, 2, none⟩) (Kd.V_far (p := ⟨gb336, 1, none⟩) (Kd.V_far (p := ⟨gb336, 0, none⟩) (Kd.V_mono HO_318000.out (fun k_ hk => (⟨hk, hk.2⟩ : _ ∧ k_ ≠ gb336))) (fun _ hk => hk.2) (.slice Ao79 t327.length co79)) (fun _ hk => hk.2) (.slice Ao83 t330.length co83)) (fun _ hk => hk.2) (.int .i64 t333)) (fun _ hk => hk.2) (.bool t334)) (fun _ h_ => h_.1))) hb); have n4_ := Aside0.mk (Kd.V_below (by (with_reducible repeat (first | apply Kd.V_alloc | apply Kd.V_drewN | apply Kd.V_drew)); exact (Kd.V_mono (Kd.V_far (p := ⟨gb336, 3, none⟩) (Kd.V_far (p := ⟨gb336, 2, none⟩) (Kd.V_far (p := ⟨gb336, 1, none⟩) (Kd.V_far (p := ⟨gb336, 0, none⟩) (Kd.V_mono HO_318001.out (fun k_ hk => (⟨hk, hk.2⟩ : _ ∧ k_ ≠ gb336))) (fun _ hk => hk.2) (.slice Ao79 t327.length co79)) (fun _ hk => hk.2) (.slice Ao83 t330.length co83)) (fun _ hk => hk.2) (.int .i64 t333)) (fun _ hk => hk.2) (.bool t334)) (fun _ h_ => h_.1))) hb); have n5_ := Aside0.mk (Kd.V_below (by (with_reducible repeat (first | apply Kd.V_alloc | apply Kd.V_drewN | apply Kd.V_drew)); exact (Kd.V_mono (Kd.V_far (p := ⟨gb336, 3, none⟩) (Kd.V_far (p := ⟨gb336, 2, none⟩) (Kd.V_far (p := ⟨gb336, 1, none⟩) (Kd.V_far (p := ⟨gb336, 0, none⟩) (Kd.V_mono HO329.out (fun k_ hk => (⟨hk, hk.2⟩ : _ ∧ k_ ≠ gb336))) (fun _ hk => hk.2) (.slice Ao79 t327.length co79)) (fun _ hk => hk.2) (.slice Ao83 t330.length co83)) (fun _ hk => hk.2) (.int .i64 t333)) (fun _ hk => hk.2) (.bool t334)) (fun _ h_ => h_.1))) hb); have n6_ := Aside0.mk (Kd.V_below (by (with_reducible repeat (first | apply Kd.V_alloc | apply Kd.V_drewN | apply Kd.V_drew)); exact (Kd.V_mono (Kd.V_far (p := ⟨gb336, 3, none⟩) (Kd.V_far (p := ⟨gb336, 2, none⟩) (Kd.V_far (p := ⟨gb336, 1, none⟩) (Kd.V_far (p := ⟨gb336, 0, none⟩) (Kd.V_mono HO332.out (fun k_ hk => (⟨hk, hk.2⟩ : _ ∧ k_ ≠ gb336))) (fun _ hk => hk.2) (.slice Ao79 t327.length co79)) (fun _ hk => hk.2) (.slice Ao83 t330.length co83)) (fun _ hk => hk.2) (.int .i64 t333)) (fun _ hk => hk.2) (.bool t334)) (fun _ h_ => h_.1))) hb); have n7_ := Aside0.mk (Kd.V_lower (Kd.V_mono (ok' := fun k_ => some k_ ≠ (u12 : Value).ownBlock ∧ k_ ≠ gb282 ∧ k_ ≠ gb317 ∧ k_ ≠ gb336) ho0 (fun k_ hk_ => ⟨(Kd.fresh' (Kd.R_lt (by (with_reducible repeat (first | apply Kd.R_alloc | apply Kd.R_drewN | apply Kd.R_drew)); exact (Kd.R_mono (Kd.R_far (p := ⟨gb336, 3, none⟩) (Kd.R_far (p := ⟨gb336, 2, none⟩) (Kd.R_far (p := ⟨gb336, 1, none⟩) (Kd.R_far (p := ⟨gb336, 0, none⟩) (Kd.R_types HO_12.out BK336.out (by decide)) (fun _ hk => hk.2) (.slice Ao79 t327.length co79)) (fun _ hk => hk.2) (.slice Ao83 t330.length co83)) (fun _ hk => hk.2) (.int .i64 t333)) (fun _ hk => hk.2) (.bool t334)) (fun _ h_ => h_.1)))) k_ hk_), (Kd.freshB (g := gb282) (o := .cells #[.slice Ao53 t298.length co53, .slice Ao55 t301.length co55, .int .i64 a2, .bool t305] 25 (0, 0)) (by (with_reducible repeat (first | refine blk_drewN ?_ _ | refine blk_drew ?_ | refine blk_alloc ?_ _)); refine blk_far ?_ NB282_336.out _; (with_reducible repeat (first | refine blk_drewN ?_ _ | refine blk_drew ?_ | refine blk_alloc ?_ _)); refine blk_far ?_ NB282_336.out _; (with_reducible repeat (first | refine blk_drewN ?_ _ | refine blk_drew ?_ | refine blk_alloc ?_ _)); refine blk_far ?_ NB282_336.out _; (with_reducible repeat (first | refine blk_drewN ?_ _ | refine blk_drew ?_ | refine blk_alloc ?_ _)); refine blk_far ?_ NB282_336.out _; (with_reducible repeat (first | refine blk_drewN ?_ _ | refine blk_drew ?_ | refine blk_alloc ?_ _)); exact BK282.out) k_ hk_), (Kd.freshB (g := gb317) (o := .cells #[.slice Ao75 x318000_47.length co75, .slice Ao76 x318001_47.length co76, .int .i64 x318002_47, .bool x318003_47] 25 (0, 0)) (by (with_reducible repeat (first | refine blk_drewN ?_ _ | refine blk_drew ?_ | refine blk_alloc ?_ _)); refine blk_far ?_ NB317_336.out _; (with_reducible repeat (first | refine blk_drewN ?_ _ | refine blk_drew ?_ | refine blk_alloc ?_ _)); refine blk_far ?_ NB317_336.out _; (with_reducible repeat (first | refine blk_drewN ?_ _ | refine blk_drew ?_ | refine blk_alloc ?_ _)); refine blk_far ?_ NB317_336.out _; (with_reducible repeat (first | refine blk_drewN ?_ _ | refine blk_drew ?_ | refine blk_alloc ?_ _)); refine blk_far ?_ NB317_336.out _; (with_reducible repeat (first | refine blk_drewN ?_ _ | refine blk_drew ?_ | refine blk_alloc ?_ _)); exact BK317.out) k_ hk_), (Kd.freshB (g := gb336) (o := .cells #[.slice Ao79 t327.length co79, .slice Ao83 t330.length co83, .int .i64 t333, .bool t334] 25 (0, 0)) (by (with_reducible repeat (first | refine blk_drewN ?_ _ | refine blk_drew ?_ | refine blk_alloc ?_ _)); refine blk_put (cs := #[.slice Ao79 t327.length co79, .slice Ao83 t330.length co83, .int .i64 t333, .bool false]) ?_ 3 _ rfl; (with_reducible repeat (first | refine blk_drewN ?_ _ | refine blk_drew ?_ | refine blk_alloc ?_ _)); refine blk_put (cs := #[.slice Ao79 t327.length co79, .slice Ao83 t330.length co83, .int .i64 0, .bool false]) ?_ 2 _ rfl; (with_reducible repeat (first | refine blk_drewN ?_ _ | refine blk_drew ?_ | refine blk_alloc ?_ _)); refine blk_put (cs := #[.slice Ao79 t327.length co79, .slice none 0 0, .int .i64 0, .bool false]) ?_ 1 _ rfl; (with_reducible repeat (first | refine blk_drewN ?_ _ | refine blk_drew ?_ | refine blk_alloc ?_ _)); refine blk_put (cs := #[.slice none 0 0, .slice none 0 0, .int .i64 0, .bool false]) ?_ 0 _ rfl; (with_reducible repeat (first | refine blk_drewN ?_ _ | refine blk_drew ?_ | refine blk_alloc ?_ _)); exact BK336.out) k_ hk_)⟩)) (below_size (by repeat (first | (with_reducible first | exact HB.out | apply below_alloc | apply pw_below_drewN | apply below_drew1 | refine below_set ?_ GE282.out | refine below_set ?_ GE317.out | refine below_set ?_ GE336.out) | exact HB.out)))); have n8_ := Aside0.mk (blk_below (g := gb282) (o := .cells #[.slice Ao53 t298.length co53, .slice Ao55 t301.length co55, .int .i64 a2, .bool t305] 25 (0, 0)) (by (with_reducible repeat (first | refine blk_drewN ?_ _ | refine blk_drew ?_ | refine blk_alloc ?_ _)); refine blk_far ?_ NB282_336.out _; (with_reducible repeat (first | refine blk_drewN ?_ _ | refine blk_drew ?_ | refine blk_alloc ?_ _)); refine blk_far ?_ NB282_336.out _; (with_reducible repeat (first | refine blk_drewN ?_ _ | refine blk_drew ?_ | refine blk_alloc ?_ _)); refine blk_far ?_ NB282_336.out _; (with_reducible repeat (first | refine blk_drewN ?_ _ | refine blk_drew ?_ | refine blk_alloc ?_ _)); refine blk_far ?_ NB282_336.out _; (with_reducible repeat (first | refine blk_drewN ?_ _ | refine blk_drew ?_ | refine blk_alloc ?_ _)); exact BK282.out) hb); have n9_ := Aside0.mk (blk_below (g := gb317) (o := .cells #[.slice Ao75 x318000_47.length co75, .slice Ao76 x318001_47.length co76, .int .i64 x318002_47, .bool x318003_47] 25 (0, 0)) (by (with_reducible repeat (first | refine blk_drewN ?_ _ | refine blk_drew ?_ | refine blk_alloc ?_ _)); refine blk_far ?_ NB317_336.out _; (with_reducible repeat (first | refine blk_drewN ?_ _ | refine blk_drew ?_ | refine blk_alloc ?_ _)); refine blk_far ?_ NB317_336.out _; (with_reducible repeat (first | refine blk_drewN ?_ _ | refine blk_drew ?_ | refine blk_alloc ?_ _)); refine blk_far ?_ NB317_336.out _; (with_reducible repeat (first | refine blk_drewN ?_ _ | refine blk_drew ?_ | refine blk_alloc ?_ _)); refine blk_far ?_ NB317_336.out _; (with_reducible repeat (first | refine blk_drewN ?_ _ | refine blk_drew ?_ | refine blk_alloc ?_ _)); exact BK317.out) hb); have n10_ := Aside0.mk (blk_below (g := gb336) (o := .cells #[.slice Ao79 t327.length co79, .slice Ao83 t330.length co83, .int .i64 t333, .bool t334] 25 (0, 0)) (by (with_reducible repeat (first | refine blk_drewN ?_ _ | refine blk_drew ?_ | refine blk_alloc ?_ _)); refine blk_put (cs := #[.slice Ao79 t327.length co79, .slice Ao83 t330.length co83, .int .i64 t333, .bool false]) ?_ 3 _ rfl; (with_reducible repeat (first | refine blk_drewN ?_ _ | refine blk_drew ?_ | refine blk_alloc ?_ _)); refine blk_put (cs := #[.slice Ao79 t327.length co79, .slice Ao83 t330.length co83, .int .i64 0, .bool false]) ?_ 2 _ rfl; (with_reducible repeat (first | refine blk_drewN ?_ _ | refine blk_drew ?_ | refine blk_alloc ?_ _)); refine blk_put (cs := #[.slice Ao79 t327.length co79, .slice none 0 0, .int .i64 0, .bool false]) ?_ 1 _ rfl; (with_reducible repeat (first | refine blk_drewN ?_ _ | refine blk_drew ?_ | refine blk_alloc ?_ _)); refine blk_put (cs := #[.slice none 0 0, .slice none 0 0, .int .i64 0, .bool false]) ?_ 0 _ rfl; (with_reducible repeat (first | refine blk_drewN ?_ _ | refine blk_drew ?_ | refine blk_alloc ?_ _)); exact BK336.out) hb); have n11_ := Aside0.mk (below_step (by repeat (first | (with_reducible first | exact HB.out | apply below_alloc | apply pw_below_drewN | apply below_drew1 | refine below_set ?_ GE282.out | refine below_set ?_ GE317.out | refine below_set ?_ GE336.out) | exact HB.out)) hb); clear HO_12; clear HO_283000; clear HO_283001; clear HO_318000; clear HO_318001; clear HO329; clear HO332; clear BK282; clear BK317; clear BK336; clear HB; have HO_12 := n0_; have HO_283000 := n1_; have HO_283001 := n2_; have HO_318000 := n3_; have HO_318001 := n4_; have HO329 := n5_; have HO332 := n6_; have HO339 := n7_; have BK282 := n8_; have BK317 := n9_; have BK336 := n10_; have HB := n11_; clear n0_ n1_ n2_ n3_ n4_ n5_ n6_ n7_ n8_ n9_ n10_ n11_; (try clear hb); (try clear hb2); (try clear hk); (try clear hi); (try clear ho0)))
        (try simp only [Act.put, List.setIfInBounds_toArray, List.set_cons_zero, List.set_cons_succ])
        go_cut [121] (fun v121 wc => ∃ (kq : Nat) (x121_71 : Bool), v121 = .bool x121_71 ∧ Aside0 (bellmanlaw04_TrailTorn.j4 kq a1 x11_9 x12_9 t315 x21_47 t337 t340 x121_71 = some r) ∧ Aside0 (kq ≤ kj47) ∧ Aside0 (Kd.R Kd.string 9 wc w.heap.size (fun _ => True) u12 x12_9) ∧ Aside0 (Kd.V Kd.string 9 wc w.heap.size (fun k_ => some k_ ≠ (u12 : Value).ownBlock ∧ k_ ≠ gb282 ∧ k_ ≠ gb317 ∧ k_ ≠ gb336) v338 t337) ∧ Aside0 (Kd.V Kd.string 9 wc w.heap.size (fun k_ => some k_ ≠ (u12 : Value).ownBlock ∧ k_ ≠ gb282 ∧ k_ ≠ gb317 ∧ k_ ≠ gb336) (.slice Ao53 t298.length co53) t298) ∧ Aside0 (Kd.V k60 60 wc w.heap.size (fun k_ => some k_ ≠ (u12 : Value).ownBlock ∧ k_ ≠ gb282 ∧ k_ ≠ gb317 ∧ k_ ≠ gb336) (.slice Ao55 t301.length co55) t301) ∧ Aside0 (Kd.V Kd.string 9 wc w.heap.size (fun k_ => some k_ ≠ (u12 : Value).ownBlock ∧ k_ ≠ gb282 ∧ k_ ≠ gb317 ∧ k_ ≠ gb336) (.slice Ao75 x318000_47.length co75) x318000_47) ∧ Aside0 (Kd.V k60 60 wc w.heap.size (fun k_ => some k_ ≠ (u12 : Value).ownBlock ∧ k_ ≠ gb282 ∧ k_ ≠ gb317 ∧ k_ ≠ gb336) (.slice Ao76 x318001_47.length co76) x318001_47) ∧ Aside0 (Kd.V Kd.string 9 wc w.heap.size (fun k_ => some k_ ≠ (u12 : Value).ownBlock ∧ k_ ≠ gb282 ∧ k_ ≠ gb317 ∧ k_ ≠ gb336) (.slice Ao79 t327.length co79) t327) ∧ Aside0 (Kd.V k60 60 wc w.heap.size (fun k_ => some k_ ≠ (u12 : Value).ownBlock ∧ k_ ≠ gb282 ∧ k_ ≠ gb317 ∧ k_ ≠ gb336) (.slice Ao83 t330.length co83) t330) ∧ Aside0 (wc.heap[gb282]? = some (.cells #[(.slice Ao53 t298.length co53), (.slice Ao55 t301.length co55), .int .i64 a2, .bool t305] 25 (0, 0))) ∧ Aside0 (wc.heap[gb317]? = some (.cells #[(.slice Ao75 x318000_47.length co75), (.slice Ao76 x318001_47.length co76), .int .i64 x318002_47, .bool x318003_47] 25 (0, 0))) ∧ Aside0 (wc.heap[gb336]? = some (.cells #[(.slice Ao79 t327.length co79), (.slice Ao83 t330.length co83), .int .i64 t333, .bool t334] 25 (0, 0))) ∧ Aside0 (Below w.heap.size w wc))
        case first =>
         have H := HC72.out
         clear HC72
         by_cases c85 : t306 = 0
         ·rw [if_pos c85] at H
          have c85b0 : (t306 == 0) = true := beq_iff_eq.mpr c85
          have c85b1 : (t306 != 0) = false := bne_eq_false_iff_eq.mpr c85
          clear c85
          (first | rw [c85b0] | (simp only [i64_w, i32_w]; rw [c85b0]) | skip)
          by_cases c86 : t335 = 0
          ·rw [if_pos c86] at H
           have c86b0 : (t335 == 0) = true := beq_iff_eq.mpr c86
           have c86b1 : (t335 != 0) = false := bne_eq_false_iff_eq.mpr c86
           clear c86
           by_cases c87 : t341 = 0
           ·rw [if_pos c87] at H
            have c87b0 : (t341 == 0) = true := beq_iff_eq.mpr c87
            have c87b1 : (t341 != 0) = false := bne_eq_false_iff_eq.mpr c87
            clear c87
            obtain ⟨ji88, hji88⟩ : ∃ j_ : Int, (mn (t337.length : Int) (x12_9.length : Int)) = j_ := ⟨_, rfl⟩
            replace H : (if 0 ≤ (ji88) then (if (ji88) ≤ (t337.length : Int) then ((bellmanref01_SameTexts.f kj47 (t337.take ((ji88) : Int).toNat) x12_9).bind fun t347 => (bellmanlaw04_TrailTorn.j4 kj47 a1 x11_9 x12_9 t315 x21_47 t337 t340 (!t347))) else (none)) else (none)) = some r := by first | (rw [hji88] at H; exact H) | (simp only [hji88] at H ⊢; exact H)
            have hji88_ : (if (x12_9.length : Int) < (t337.length : Int) then (x12_9.length : Int) else (t337.length : Int)) = ji88 := hji88
            have hji88n_ : (if x12_9.length < t337.length then (x12_9.length : Int) else (t337.length : Int)) = ji88 := by rw [← hji88_]; by_cases hq_ : x12_9.length < t337.length <;> simp [hq_]
            by_cases c89 : 0 ≤ (ji88)
            ·rw [if_pos c89] at H
             have c89b0 := eq_true c89
             have c89b1 : decide (0 ≤ (ji88)) = true := decide_eq_true c89
             clear c89
             by_cases c90 : (ji88) ≤ (t337.length : Int)
             ·rw [if_pos c90] at H
              have c90b0 := eq_true c90
              have c90b1 : decide ((ji88) ≤ (t337.length : Int)) = true := decide_eq_true c90
              clear c90
              obtain ⟨y342, hy342⟩ : ∃ y_ : List ByteArray, y_ = (t337.take ((ji88) : Int).toNat) := ⟨_, rfl⟩
              replace H : ((bellmanref01_SameTexts.f kj47 y342 x12_9).bind fun t347 => (bellmanlaw04_TrailTorn.j4 kj47 a1 x11_9 x12_9 t315 x21_47 t337 t340 (!t347))) = some r := by first | (rw [hy342]; with_reducible exact H) | (have H2_ := (Option.bind_some _ _).symm.trans H; rw [hy342]; with_reducible exact H2_) | (have H2_ := (Option.bind_some _ _).symm.trans H; with_reducible exact H2_) | with_reducible exact H | (rw [hy342]; exact H) | exact H
              have Ny342 := Aside0.mk hy342
              clear hy342
              replace H := Option.bind_eq_some_iff.mp H
              obtain ⟨t347, A910, H⟩ := H
              replace H : (bellmanlaw04_TrailTorn.j4 kj47 a1 x11_9 x12_9 t315 x21_47 t337 t340 (!t347)) = some r := H
              have A91 := Aside0.mk A910
              clear A910
              have H' := Aside0.mk H
              clear H
              obtain ⟨Ao92, co92, eo92⟩ := Kd.V_slice HO339.out
              subst eo92
              obtain ⟨Ao93, co93, eo93⟩ := Kd.R_slice HO_12.out
              subst eo93
              have q94 : ((ji88) : Int) ≤ ((t337.length : Int) : Int) := of_decide_eq_true (by first | (with_reducible assumption) | assumption)
              obtain ⟨i094, hi094, _, hsz94, _⟩ := info_parts info9
              have hroom94 : t337.length ≤ co92 := (Kd.V_reads' HO339.out).2.1
              have hC94 : Kd.F Kd.string _ _ Ao92 t337.length t337 := (Kd.V_at (base := w.heap.size) HO339.out).2.2
              have hcut94 := cut_to (P := Tryd.prog) 22 9 .i64 Tryd.underlying22 hi094 Ao92 t337.length co92 (ji88) (of_decide_eq_true (by first | (with_reducible assumption) | assumption)) q94 hroom94
              have hr94 := Kd.F_take (m := ((ji88) : Int).toNat) hC94 (by omega)
              have hy94 : y342.length = ((ji88) : Int).toNat := (by rw [Ny342.out, List.length_take]; omega)
              rw [← Ny342.out] at hr94
              rw [← hy94] at hcut94
              have HO346 := Aside0.mk (show Kd.V Kd.string 9 _ w.heap.size _ (.slice Ao92 y342.length co92) y342 from Kd.V_mk (by omega) hr94)
              have HC346 := Aside0.mk (show y342.length ≤ co92 from by omega)
              clear hr94 hC94 hroom94 hi094 hsz94
              have KY94 := Aside0.mk hy94
              clear hy94
              replace q94 := eq_true q94
              go_wp2_with (first | (go_at_call 12; (with_reducible refine (bellmanref01_SameTexts.calls kj47 _ _ y342 _ _ x12_9 t347 _ ?side1 ?side2 ?side3 ?side4 A91.out).mono ?_); (case side1 => repeat (first | exact (Kd.V_reads' HO346.out).2.2 | (with_reducible refine Kd.C_alloc ?_ _) | (with_reducible refine Kd.C_drewN ?_ _) | (with_reducible refine Kd.C_drew ?_))); (case side2 => exact (Kd.V_reads' HO346.out).2.1); (case side3 => repeat (first | exact (Kd.R_reads' HO_12.out).2.2 | (with_reducible refine Kd.C_alloc ?_ _) | (with_reducible refine Kd.C_drewN ?_ _) | (with_reducible refine Kd.C_drew ?_))); (case side4 => exact (Kd.R_reads' HO_12.out).2.1); rintro e w' ⟨rfl, ⟨nd, rfl⟩⟩))
              go_meet
              case rel => exact ⟨_, (!t347), (by first | rfl | (simp; done) | (simp [*]; done)), H', ⟨by have := HJ9.out; have := HJ47.out; first | omega | exact Nat.le_refl _⟩, ⟨by (with_reducible repeat (first | apply Kd.R_alloc | apply Kd.R_drewN | apply Kd.R_drew)); exact HO_12.out⟩, ⟨by (with_reducible repeat (first | apply Kd.V_alloc | apply Kd.V_drewN | apply Kd.V_drew)); exact HO339.out⟩, ⟨by (with_reducible repeat (first | apply Kd.V_alloc | apply Kd.V_drewN | apply Kd.V_drew)); exact Kd.V_mono HO_283000.out (fun _ hk => ⟨hk.1.1, ⟨hk.1.2.1, ⟨hk.1.2.2, hk.2⟩⟩⟩)⟩, ⟨by (with_reducible repeat (first | apply Kd.V_alloc | apply Kd.V_drewN | apply Kd.V_drew)); exact Kd.V_mono HO_283001.out (fun _ hk => ⟨hk.1.1, ⟨hk.1.2.1, ⟨hk.1.2.2, hk.2⟩⟩⟩)⟩, ⟨by (with_reducible repeat (first | apply Kd.V_alloc | apply Kd.V_drewN | apply Kd.V_drew)); exact Kd.V_mono HO_318000.out (fun _ hk => ⟨hk.1.1, ⟨hk.1.2.1, ⟨hk.1.2.2, hk.2⟩⟩⟩)⟩, ⟨by (with_reducible repeat (first | apply Kd.V_alloc | apply Kd.V_drewN | apply Kd.V_drew)); exact Kd.V_mono HO_318001.out (fun _ hk => ⟨hk.1.1, ⟨hk.1.2.1, ⟨hk.1.2.2, hk.2⟩⟩⟩)⟩, ⟨by (with_reducible repeat (first | apply Kd.V_alloc | apply Kd.V_drewN | apply Kd.V_drew)); exact Kd.V_mono HO329.out (fun _ hk => ⟨hk.1.1, ⟨hk.1.2.1, ⟨hk.1.2.2, hk.2⟩⟩⟩)⟩, ⟨by (with_reducible repeat (first | apply Kd.V_alloc | apply Kd.V_drewN | apply Kd.V_drew)); exact Kd.V_mono HO332.out (fun _ hk => ⟨hk.1.1, ⟨hk.1.2.1, ⟨hk.1.2.2, hk.2⟩⟩⟩)⟩, ⟨by (with_reducible repeat (first | refine blk_drewN ?_ _ | refine blk_drew ?_ | refine blk_alloc ?_ _)); exact BK282.out⟩, ⟨by (with_reducible repeat (first | refine blk_drewN ?_ _ | refine blk_drew ?_ | refine blk_alloc ?_ _)); exact BK317.out⟩, ⟨by (with_reducible repeat (first | refine blk_drewN ?_ _ | refine blk_drew ?_ | refine blk_alloc ?_ _)); exact BK336.out⟩, ⟨by repeat (first | (with_reducible first | exact HB.out | apply below_alloc | apply pw_below_drewN | apply below_drew1 | refine below_set ?_ GE282.out | refine below_set ?_ GE317.out | refine below_set ?_ GE336.out) | exact HB.out)⟩⟩
             ·rw [if_neg c90] at H
              exact absurd H (by simp)
            ·rw [if_neg c89] at H
             exact absurd H (by simp)
           ·rw [if_neg c87] at H
            have c87b0 : (t341 == 0) = false := beq_eq_false_iff_ne.mpr c87
            have c87b1 : (t341 != 0) = true := bne_iff_ne.mpr c87
            have H' := Aside0.mk H
            clear H
            go_wp2
            go_meet
            case rel => exact ⟨_, (true), (by first | rfl | (simp; done) | (simp [*]; done)), H', ⟨by have := HJ9.out; have := HJ47.out; first | omega | exact Nat.le_refl _⟩, ⟨by (with_reducible repeat (first | apply Kd.R_alloc | apply Kd.R_drewN | apply Kd.R_drew)); exact HO_12.out⟩, ⟨by (with_reducible repeat (first | apply Kd.V_alloc | apply Kd.V_drewN | apply Kd.V_drew)); exact HO339.out⟩, ⟨by (with_reducible repeat (first | apply Kd.V_alloc | apply Kd.V_drewN | apply Kd.V_drew)); exact Kd.V_mono HO_283000.out (fun _ hk => ⟨hk.1.1, ⟨hk.1.2.1, ⟨hk.1.2.2, hk.2⟩⟩⟩)⟩, ⟨by (with_reducible repeat (first | apply Kd.V_alloc | apply Kd.V_drewN | apply Kd.V_drew)); exact Kd.V_mono HO_283001.out (fun _ hk => ⟨hk.1.1, ⟨hk.1.2.1, ⟨hk.1.2.2, hk.2⟩⟩⟩)⟩, ⟨by (with_reducible repeat (first | apply Kd.V_alloc | apply Kd.V_drewN | apply Kd.V_drew)); exact Kd.V_mono HO_318000.out (fun _ hk => ⟨hk.1.1, ⟨hk.1.2.1, ⟨hk.1.2.2, hk.2⟩⟩⟩)⟩, ⟨by (with_reducible repeat (first | apply Kd.V_alloc | apply Kd.V_drewN | apply Kd.V_drew)); exact Kd.V_mono HO_318001.out (fun _ hk => ⟨hk.1.1, ⟨hk.1.2.1, ⟨hk.1.2.2, hk.2⟩⟩⟩)⟩, ⟨by (with_reducible repeat (first | apply Kd.V_alloc | apply Kd.V_drewN | apply Kd.V_drew)); exact Kd.V_mono HO329.out (fun _ hk => ⟨hk.1.1, ⟨hk.1.2.1, ⟨hk.1.2.2, hk.2⟩⟩⟩)⟩, ⟨by (with_reducible repeat (first | apply Kd.V_alloc | apply Kd.V_drewN | apply Kd.V_drew)); exact Kd.V_mono HO332.out (fun _ hk => ⟨hk.1.1, ⟨hk.1.2.1, ⟨hk.1.2.2, hk.2⟩⟩⟩)⟩, ⟨by (with_reducible repeat (first | refine blk_drewN ?_ _ | refine blk_drew ?_ | refine blk_alloc ?_ _)); exact BK282.out⟩, ⟨by (with_reducible repeat (first | refine blk_drewN ?_ _ | refine blk_drew ?_ | refine blk_alloc ?_ _)); exact BK317.out⟩, ⟨by (with_reducible repeat (first | refine blk_drewN ?_ _ | refine blk_drew ?_ | refine blk_alloc ?_ _)); exact BK336.out⟩, ⟨by repeat (first | (with_reducible first | exact HB.out | apply below_alloc | apply pw_below_drewN | apply below_drew1 | refine below_set ?_ GE282.out | refine below_set ?_ GE317.out | refine below_set ?_ GE336.out) | exact HB.out)⟩⟩
          ·rw [if_neg c86] at H
           have c86b0 : (t335 == 0) = false := beq_eq_false_iff_ne.mpr c86
           have c86b1 : (t335 != 0) = true := bne_iff_ne.mpr c86
           have H' := Aside0.mk H
           clear H
           go_wp2
           go_meet
           case rel => exact ⟨_, (true), (by first | rfl | (simp; done) | (simp [*]; done)), H', ⟨by have := HJ9.out; have := HJ47.out; first | omega | exact Nat.le_refl _⟩, ⟨by (with_reducible repeat (first | apply Kd.R_alloc | apply Kd.R_drewN | apply Kd.R_drew)); exact HO_12.out⟩, ⟨by (with_reducible repeat (first | apply Kd.V_alloc | apply Kd.V_drewN | apply Kd.V_drew)); exact HO339.out⟩, ⟨by (with_reducible repeat (first | apply Kd.V_alloc | apply Kd.V_drewN | apply Kd.V_drew)); exact Kd.V_mono HO_283000.out (fun _ hk => ⟨hk.1.1, ⟨hk.1.2.1, ⟨hk.1.2.2, hk.2⟩⟩⟩)⟩, ⟨by (with_reducible repeat (first | apply Kd.V_alloc | apply Kd.V_drewN | apply Kd.V_drew)); exact Kd.V_mono HO_283001.out (fun _ hk => ⟨hk.1.1, ⟨hk.1.2.1, ⟨hk.1.2.2, hk.2⟩⟩⟩)⟩, ⟨by (with_reducible repeat (first | apply Kd.V_alloc | apply Kd.V_drewN | apply Kd.V_drew)); exact Kd.V_mono HO_318000.out (fun _ hk => ⟨hk.1.1, ⟨hk.1.2.1, ⟨hk.1.2.2, hk.2⟩⟩⟩)⟩, ⟨by (with_reducible repeat (first | apply Kd.V_alloc | apply Kd.V_drewN | apply Kd.V_drew)); exact Kd.V_mono HO_318001.out (fun _ hk => ⟨hk.1.1, ⟨hk.1.2.1, ⟨hk.1.2.2, hk.2⟩⟩⟩)⟩, ⟨by (with_reducible repeat (first | apply Kd.V_alloc | apply Kd.V_drewN | apply Kd.V_drew)); exact Kd.V_mono HO329.out (fun _ hk => ⟨hk.1.1, ⟨hk.1.2.1, ⟨hk.1.2.2, hk.2⟩⟩⟩)⟩, ⟨by (with_reducible repeat (first | apply Kd.V_alloc | apply Kd.V_drewN | apply Kd.V_drew)); exact Kd.V_mono HO332.out (fun _ hk => ⟨hk.1.1, ⟨hk.1.2.1, ⟨hk.1.2.2, hk.2⟩⟩⟩)⟩, ⟨by (with_reducible repeat (first | refine blk_drewN ?_ _ | refine blk_drew ?_ | refine blk_alloc ?_ _)); exact BK282.out⟩, ⟨by (with_reducible repeat (first | refine blk_drewN ?_ _ | refine blk_drew ?_ | refine blk_alloc ?_ _)); exact BK317.out⟩, ⟨by (with_reducible repeat (first | refine blk_drewN ?_ _ | refine blk_drew ?_ | refine blk_alloc ?_ _)); exact BK336.out⟩, ⟨by repeat (first | (with_reducible first | exact HB.out | apply below_alloc | apply pw_below_drewN | apply below_drew1 | refine below_set ?_ GE282.out | refine below_set ?_ GE317.out | refine below_set ?_ GE336.out) | exact HB.out)⟩⟩
         ·rw [if_neg c85] at H
          have c85b0 : (t306 == 0) = false := beq_eq_false_iff_ne.mpr c85
          have c85b1 : (t306 != 0) = true := bne_iff_ne.mpr c85
          (first | rw [c85b0] | (simp only [i64_w, i32_w]; rw [c85b0]) | skip)
          have H' := Aside0.mk H
          clear H
          go_wp2
          go_meet
          case rel => exact ⟨_, (true), (by first | rfl | (simp; done) | (simp [*]; done)), H', ⟨by have := HJ9.out; have := HJ47.out; first | omega | exact Nat.le_refl _⟩, ⟨by (with_reducible repeat (first | apply Kd.R_alloc | apply Kd.R_drewN | apply Kd.R_drew)); exact HO_12.out⟩, ⟨by (with_reducible repeat (first | apply Kd.V_alloc | apply Kd.V_drewN | apply Kd.V_drew)); exact HO339.out⟩, ⟨by (with_reducible repeat (first | apply Kd.V_alloc | apply Kd.V_drewN | apply Kd.V_drew)); exact Kd.V_mono HO_283000.out (fun _ hk => ⟨hk.1.1, ⟨hk.1.2.1, ⟨hk.1.2.2, hk.2⟩⟩⟩)⟩, ⟨by (with_reducible repeat (first | apply Kd.V_alloc | apply Kd.V_drewN | apply Kd.V_drew)); exact Kd.V_mono HO_283001.out (fun _ hk => ⟨hk.1.1, ⟨hk.1.2.1, ⟨hk.1.2.2, hk.2⟩⟩⟩)⟩, ⟨by (with_reducible repeat (first | apply Kd.V_alloc | apply Kd.V_drewN | apply Kd.V_drew)); exact Kd.V_mono HO_318000.out (fun _ hk => ⟨hk.1.1, ⟨hk.1.2.1, ⟨hk.1.2.2, hk.2⟩⟩⟩)⟩, ⟨by (with_reducible repeat (first | apply Kd.V_alloc | apply Kd.V_drewN | apply Kd.V_drew)); exact Kd.V_mono HO_318001.out (fun _ hk => ⟨hk.1.1, ⟨hk.1.2.1, ⟨hk.1.2.2, hk.2⟩⟩⟩)⟩, ⟨by (with_reducible repeat (first | apply Kd.V_alloc | apply Kd.V_drewN | apply Kd.V_drew)); exact Kd.V_mono HO329.out (fun _ hk => ⟨hk.1.1, ⟨hk.1.2.1, ⟨hk.1.2.2, hk.2⟩⟩⟩)⟩, ⟨by (with_reducible repeat (first | apply Kd.V_alloc | apply Kd.V_drewN | apply Kd.V_drew)); exact Kd.V_mono HO332.out (fun _ hk => ⟨hk.1.1, ⟨hk.1.2.1, ⟨hk.1.2.2, hk.2⟩⟩⟩)⟩, ⟨by (with_reducible repeat (first | refine blk_drewN ?_ _ | refine blk_drew ?_ | refine blk_alloc ?_ _)); exact BK282.out⟩, ⟨by (with_reducible repeat (first | refine blk_drewN ?_ _ | refine blk_drew ?_ | refine blk_alloc ?_ _)); exact BK317.out⟩, ⟨by (with_reducible repeat (first | refine blk_drewN ?_ _ | refine blk_drew ?_ | refine blk_alloc ?_ _)); exact BK336.out⟩, ⟨by repeat (first | (with_reducible first | exact HB.out | apply below_alloc | apply pw_below_drewN | apply below_drew1 | refine below_set ?_ GE282.out | refine below_set ?_ GE317.out | refine below_set ?_ GE336.out) | exact HB.out)⟩⟩
        case rest =>
         clear HC72
         try clear c1
         try clear c2
         try clear p2
         try clear q2
         try clear hx2
         try clear c3
         try clear c4
         try clear c5
         try clear c6
         try clear p6
         try clear c7
         try clear c7b0
         try clear c8
         try clear c9
         try clear q9
         try clear c11
         try clear c14
         try clear c15
         try clear c16
         try clear c17
         try clear c17b0
         try clear c18
         try clear c18b0
         try clear c19
         try clear c19b0
         try clear c21
         try clear c21b0
         try clear c21b1
         try clear c22
         try clear c24
         try clear c24b0
         try clear c24b1
         try clear c25
         try clear p28
         try clear q28
         try clear hx28
         try clear c32
         try clear c43
         try clear c59
         try clear c62
         try clear c62b0
         try clear c62b1
         try clear c64
         try clear p64
         try clear c73
         try clear c80
         try clear c81
         try clear c85
         try clear c85b0
         try clear c85b1
         try clear c86
         try clear c86b0
         try clear c86b1
         try clear c87
         try clear c87b0
         try clear c87b1
         try clear c89
         try clear c89b0
         try clear c89b1
         try clear c90
         try clear c90b0
         try clear c90b1
         try clear q94
         try clear hcz15_0
         try clear hcz15_1
         try clear hcz15_2
         try clear hcz15_3
         try clear hcz26_0
         try clear hcz26_1
         try clear hcz26_2
         try clear hcz26_3
         try clear hcz33_0
         try clear hcz33_1
         try clear hcz33_2
         try clear hcz33_3
         try clear hcz35_0
         try clear hcz35_1
         try clear hcz35_2
         try clear hcz35_3
         try clear hcz37_0
         try clear hcz37_1
         try clear hcz37_2
         try clear hcz37_3
         try clear hcz44_0
         try clear hcz44_1
         try clear hcz44_2
         try clear hcz44_3
         try clear hcz49_0
         try clear hcz49_1
         try clear hcz49_2
         try clear hcz49_3
         try clear hcz54_0
         try clear hcz54_1
         try clear hcz54_2
         try clear hcz54_3
         try clear hcz60_0
         try clear hcz60_1
         try clear hcz60_2
         try clear hcz60_3
         try clear hcz65_0
         try clear hcz65_1
         try clear hcz65_2
         try clear hcz65_3
         try clear hcz68_0
         try clear hcz68_1
         try clear hcz68_2
         try clear hcz68_3
         try clear hcz74_0
         try clear hcz74_1
         try clear hcz74_2
         try clear hcz74_3
         try clear hcz82_0
         try clear hcz82_1
         try clear hcz82_2
         try clear hcz82_3
         try clear hfz15_0
         try clear hfz15_1
         try clear hfz15_2
         try clear hfz15_3
         try clear hfz26_0
         try clear hfz26_1
         try clear hfz26_2
         try clear hfz26_3
         try clear hfz33_0
         try clear hfz33_1
         try clear hfz33_2
         try clear hfz33_3
         try clear hfz35_0
         try clear hfz35_1
         try clear hfz35_2
         try clear hfz35_3
         try clear hfz37_0
         try clear hfz37_1
         try clear hfz37_2
         try clear hfz37_3
         try clear hfz44_0
         try clear hfz44_1
         try clear hfz44_2
         try clear hfz44_3
         try clear hfz49_0
         try clear hfz49_1
         try clear hfz49_2
         try clear hfz49_3
         try clear hfz54_0
         try clear hfz54_1
         try clear hfz54_2
         try clear hfz54_3
         try clear hfz60_0
         try clear hfz60_1
         try clear hfz60_2
         try clear hfz60_3
         try clear hfz65_0
         try clear hfz65_1
         try clear hfz65_2
         try clear hfz65_3
         try clear hfz68_0
         try clear hfz68_1
         try clear hfz68_2
         try clear hfz68_3
         try clear hfz74_0
         try clear hfz74_1
         try clear hfz74_2
         try clear hfz74_3
         try clear hfz82_0
         try clear hfz82_1
         try clear hfz82_2
         try clear hfz82_3
         try clear hx283_0
         try clear p2
         try clear p28
         try clear p283
         try clear p6
         try clear p64
         try clear q2
         try clear q28
         try clear q283
         try clear q94
         obtain ⟨kq, x121_71, rfl, HA, HJ71, HO_12, HO_24, HO_283000, HO_283001, HO_318000, HO_318001, HO_337000, HO_337001, BK282, BK317, BK336, HB⟩ := hcut
         cases kq with
         | zero => exact absurd HA.out (by simp [bellmanlaw04_TrailTorn.j4])
         | succ kj71 =>
          have H := HA.out
          clear HA
          simp only [bellmanlaw04_TrailTorn.j4] at H
          by_cases c95 : x121_71 = true
          ·subst c95
           have H1 : (some false) = some r := by rw [if_pos rfl] at H; exact H
           clear H
           have H := H1
           clear H1
           obtain rfl := Option.some.inj H
           go_wp2
           go_ret
           exact ⟨by first | rfl | (simp [errW_none, errW_some] <;> rfl) | (simp [*, errW_none, errW_some] <;> rfl), by repeat (first | (with_reducible first | exact HB.out | apply below_alloc | apply pw_below_drewN | apply below_drew1 | refine below_set ?_ GE282.out | refine below_set ?_ GE317.out | refine below_set ?_ GE336.out) | exact HB.out)⟩
          ·replace c95 := Bool.eq_false_iff.mpr c95
           subst c95
           have H1 : (if (t337.length : Int) = (x12_9.length : Int) then (if x21_47 = 0 then (some false) else (some (t340 == x11_9))) else (if (wrap64 ((t337.length : Int) - (x12_9.length : Int))) = 1 then (if 0 ≤ (x12_9.length : Int) then (if (x12_9.length : Int) < (t337.length : Int) then (if (rdOf ByteArray.empty t337 (x12_9.length : Int)).toList = a1.toList then (if t340 > x11_9 then (if x21_47 = 0 then (some (t340 == t315)) else (some true)) else (some false)) else (some false)) else (none)) else (none)) else (some false))) = some r := by rw [if_neg (show ¬ (false = true) by decide)] at H; exact H
           clear H
           have H := H1
           clear H1
           by_cases c96 : (t337.length : Int) = (x12_9.length : Int)
           ·rw [if_pos c96] at H
            have c96b0 : ((t337.length : Int) == (x12_9.length : Int)) = true := beq_iff_eq.mpr c96
            have c96b1 : ((t337.length : Int) != (x12_9.length : Int)) = false := bne_eq_false_iff_eq.mpr c96
            have c96b2 : (t337.length == x12_9.length) = true := by first | simpa using c96 | (simp at c96 ⊢; omega)
            clear c96
            by_cases c97 : x21_47 = 0
            ·rw [if_pos c97] at H
             have c97b0 : (x21_47 == 0) = true := beq_iff_eq.mpr c97
             have c97b1 : (x21_47 != 0) = false := bne_eq_false_iff_eq.mpr c97
             clear c97
             obtain rfl := Option.some.inj H
             obtain ⟨Ao98, co98, eo98⟩ := Kd.V_slice HO_24.out
             subst eo98
             obtain ⟨Ao99, co99, eo99⟩ := Kd.R_slice HO_12.out
             subst eo99
             go_wp2
             go_ret
             exact ⟨by first | rfl | (simp [errW_none, errW_some] <;> rfl) | (simp [*, errW_none, errW_some] <;> rfl), by repeat (first | (with_reducible first | exact HB.out | apply below_alloc | apply pw_below_drewN | apply below_drew1 | refine below_set ?_ GE282.out | refine below_set ?_ GE317.out | refine below_set ?_ GE336.out) | exact HB.out)⟩
            ·rw [if_neg c97] at H
             have c97b0 : (x21_47 == 0) = false := beq_eq_false_iff_ne.mpr c97
             have c97b1 : (x21_47 != 0) = true := bne_iff_ne.mpr c97
             obtain rfl := Option.some.inj H
             obtain ⟨Ao100, co100, eo100⟩ := Kd.V_slice HO_24.out
             subst eo100
             obtain ⟨Ao101, co101, eo101⟩ := Kd.R_slice HO_12.out
             subst eo101
             go_wp2
             go_ret
             exact ⟨by first | rfl | (simp [errW_none, errW_some] <;> rfl) | (simp [*, errW_none, errW_some] <;> rfl), by repeat (first | (with_reducible first | exact HB.out | apply below_alloc | apply pw_below_drewN | apply below_drew1 | refine below_set ?_ GE282.out | refine below_set ?_ GE317.out | refine below_set ?_ GE336.out) | exact HB.out)⟩
           ·rw [if_neg c96] at H
            have c96b0 : ((t337.length : Int) == (x12_9.length : Int)) = false := beq_eq_false_iff_ne.mpr c96
            have c96b1 : ((t337.length : Int) != (x12_9.length : Int)) = true := bne_iff_ne.mpr c96
            have c96b2 : (t337.length == x12_9.length) = false := by first | simpa using c96 | (simp at c96 ⊢; omega)
            by_cases c102 : (wrap64 ((t337.length : Int) - (x12_9.length : Int))) = 1
            ·rw [if_pos c102] at H
             have c102b0 : ((wrap64 ((t337.length : Int) - (x12_9.length : Int))) == 1) = true := beq_iff_eq.mpr c102
             have c102b1 : ((wrap64 ((t337.length : Int) - (x12_9.length : Int))) != 1) = false := bne_eq_false_iff_eq.mpr c102
             clear c102
             by_cases c103 : 0 ≤ (x12_9.length : Int)
             ·rw [if_pos c103] at H
              have c103b0 : decide (0 ≤ (x12_9.length : Int)) = true := decide_eq_true c103
              have c103b1 : decide (0 ≤ x12_9.length) = true := decide_eq_true (by omega)
              clear c103
              by_cases c104 : (x12_9.length : Int) < (t337.length : Int)
              ·rw [if_pos c104] at H
               have c104b0 : decide ((x12_9.length : Int) < (t337.length : Int)) = true := decide_eq_true c104
               have c104b1 : decide (x12_9.length < t337.length) = true := decide_eq_true (Int.ofNat_lt.mp c104)
               clear c104
               by_cases c105 : (rdOf ByteArray.empty t337 (x12_9.length : Int)).toList = a1.toList
               ·rw [if_pos c105] at H
                have c105b0 : ((rdOf ByteArray.empty t337 (x12_9.length : Int)).toList == a1.toList) = true := beq_iff_eq.mpr c105
                have c105b1 : ((rdOf ByteArray.empty t337 (x12_9.length : Int)).toList != a1.toList) = false := bne_eq_false_iff_eq.mpr c105
                clear c105
                by_cases c106 : t340 > x11_9
                ·rw [if_pos c106] at H
                 have c106b0 : decide (x11_9 < t340) = true := decide_eq_true c106
                 clear c106
                 by_cases c107 : x21_47 = 0
                 ·rw [if_pos c107] at H
                  have c107b0 : (x21_47 == 0) = true := beq_iff_eq.mpr c107
                  have c107b1 : (x21_47 != 0) = false := bne_eq_false_iff_eq.mpr c107
                  clear c107
                  obtain rfl := Option.some.inj H
                  obtain ⟨Ao108, co108, eo108⟩ := Kd.V_slice HO_24.out
                  subst eo108
                  obtain ⟨Ao109, co109, eo109⟩ := Kd.R_slice HO_12.out
                  subst eo109
                  have p348 : 0 ≤ ((x12_9.length : Int) : Int) := of_decide_eq_true (by first | (with_reducible assumption) | assumption)
                  have q348 : (x12_9.length : Int) < (t337.length : Int) := of_decide_eq_true (by first | (with_reducible assumption) | assumption)
                  obtain ⟨ad348, e348, hx348_0⟩ := Kd.at_string (Kd.V_reads' HO_24.out).2.2 (x12_9.length : Int) p348 q348
                  cases e348
                  (try simp only [Go.IntWalk.toNatUp] at hx348_0)
                  replace p348 := eq_true p348
                  replace q348 := eq_true q348
                  go_wp2
                  go_ret
                  exact ⟨by first | rfl | (simp [errW_none, errW_some] <;> rfl) | (simp [*, errW_none, errW_some] <;> rfl), by repeat (first | (with_reducible first | exact HB.out | apply below_alloc | apply pw_below_drewN | apply below_drew1 | refine below_set ?_ GE282.out | refine below_set ?_ GE317.out | refine below_set ?_ GE336.out) | exact HB.out)⟩
                 ·rw [if_neg c107] at H
                  have c107b0 : (x21_47 == 0) = false := beq_eq_false_iff_ne.mpr c107
                  have c107b1 : (x21_47 != 0) = true := bne_iff_ne.mpr c107
                  obtain rfl := Option.some.inj H
                  obtain ⟨Ao110, co110, eo110⟩ := Kd.V_slice HO_24.out
                  subst eo110
                  obtain ⟨Ao111, co111, eo111⟩ := Kd.R_slice HO_12.out
                  subst eo111
                  have p348 : 0 ≤ ((x12_9.length : Int) : Int) := of_decide_eq_true (by first | (with_reducible assumption) | assumption)
                  have q348 : (x12_9.length : Int) < (t337.length : Int) := of_decide_eq_true (by first | (with_reducible assumption) | assumption)
                  obtain ⟨ad348, e348, hx348_0⟩ := Kd.at_string (Kd.V_reads' HO_24.out).2.2 (x12_9.length : Int) p348 q348
                  cases e348
                  (try simp only [Go.IntWalk.toNatUp] at hx348_0)
                  replace p348 := eq_true p348
                  replace q348 := eq_true q348
                  go_wp2
                  go_ret
                  exact ⟨by first | rfl | (simp [errW_none, errW_some] <;> rfl) | (simp [*, errW_none, errW_some] <;> rfl), by repeat (first | (with_reducible first | exact HB.out | apply below_alloc | apply pw_below_drewN | apply below_drew1 | refine below_set ?_ GE282.out | refine below_set ?_ GE317.out | refine below_set ?_ GE336.out) | exact HB.out)⟩
                ·rw [if_neg c106] at H
                 have c106b0 : decide (x11_9 < t340) = false := decide_eq_false c106
                 clear c106
                 obtain rfl := Option.some.inj H
                 obtain ⟨Ao112, co112, eo112⟩ := Kd.V_slice HO_24.out
                 subst eo112
                 obtain ⟨Ao113, co113, eo113⟩ := Kd.R_slice HO_12.out
                 subst eo113
                 have p348 : 0 ≤ ((x12_9.length : Int) : Int) := of_decide_eq_true (by first | (with_reducible assumption) | assumption)
                 have q348 : (x12_9.length : Int) < (t337.length : Int) := of_decide_eq_true (by first | (with_reducible assumption) | assumption)
                 obtain ⟨ad348, e348, hx348_0⟩ := Kd.at_string (Kd.V_reads' HO_24.out).2.2 (x12_9.length : Int) p348 q348
                 cases e348
                 (try simp only [Go.IntWalk.toNatUp] at hx348_0)
                 replace p348 := eq_true p348
                 replace q348 := eq_true q348
                 go_wp2
                 go_ret
                 exact ⟨by first | rfl | (simp [errW_none, errW_some] <;> rfl) | (simp [*, errW_none, errW_some] <;> rfl), by repeat (first | (with_reducible first | exact HB.out | apply below_alloc | apply pw_below_drewN | apply below_drew1 | refine below_set ?_ GE282.out | refine below_set ?_ GE317.out | refine below_set ?_ GE336.out) | exact HB.out)⟩
               ·rw [if_neg c105] at H
                have c105b0 : ((rdOf ByteArray.empty t337 (x12_9.length : Int)).toList == a1.toList) = false := beq_eq_false_iff_ne.mpr c105
                have c105b1 : ((rdOf ByteArray.empty t337 (x12_9.length : Int)).toList != a1.toList) = true := bne_iff_ne.mpr c105
                obtain rfl := Option.some.inj H
                obtain ⟨Ao114, co114, eo114⟩ := Kd.V_slice HO_24.out
                subst eo114
                obtain ⟨Ao115, co115, eo115⟩ := Kd.R_slice HO_12.out
                subst eo115
                have p348 : 0 ≤ ((x12_9.length : Int) : Int) := of_decide_eq_true (by first | (with_reducible assumption) | assumption)
                have q348 : (x12_9.length : Int) < (t337.length : Int) := of_decide_eq_true (by first | (with_reducible assumption) | assumption)
                obtain ⟨ad348, e348, hx348_0⟩ := Kd.at_string (Kd.V_reads' HO_24.out).2.2 (x12_9.length : Int) p348 q348
                cases e348
                (try simp only [Go.IntWalk.toNatUp] at hx348_0)
                replace p348 := eq_true p348
                replace q348 := eq_true q348
                go_wp2
                go_ret
                exact ⟨by first | rfl | (simp [errW_none, errW_some] <;> rfl) | (simp [*, errW_none, errW_some] <;> rfl), by repeat (first | (with_reducible first | exact HB.out | apply below_alloc | apply pw_below_drewN | apply below_drew1 | refine below_set ?_ GE282.out | refine below_set ?_ GE317.out | refine below_set ?_ GE336.out) | exact HB.out)⟩
              ·rw [if_neg c104] at H
               exact absurd H (by simp)
             ·rw [if_neg c103] at H
              exact absurd H (by simp)
            ·rw [if_neg c102] at H
             have c102b0 : ((wrap64 ((t337.length : Int) - (x12_9.length : Int))) == 1) = false := beq_eq_false_iff_ne.mpr c102
             have c102b1 : ((wrap64 ((t337.length : Int) - (x12_9.length : Int))) != 1) = true := bne_iff_ne.mpr c102
             obtain rfl := Option.some.inj H
             obtain ⟨Ao116, co116, eo116⟩ := Kd.V_slice HO_24.out
             subst eo116
             obtain ⟨Ao117, co117, eo117⟩ := Kd.R_slice HO_12.out
             subst eo117
             go_wp2
             go_ret
             exact ⟨by first | rfl | (simp [errW_none, errW_some] <;> rfl) | (simp [*, errW_none, errW_some] <;> rfl), by repeat (first | (with_reducible first | exact HB.out | apply below_alloc | apply pw_below_drewN | apply below_drew1 | refine below_set ?_ GE282.out | refine below_set ?_ GE317.out | refine below_set ?_ GE336.out) | exact HB.out)⟩
 ·replace c6 := Bool.eq_false_iff.mpr c6
  subst c6
  have H1 : (none) = some r := by rw [if_neg (show ¬ (false = true) by decide)] at H; exact H
  clear H
  have H := H1
  clear H1
  exact absurd H (by simp)

end Go.Proofs.YthlnjbaichkipaaDoor.XR
