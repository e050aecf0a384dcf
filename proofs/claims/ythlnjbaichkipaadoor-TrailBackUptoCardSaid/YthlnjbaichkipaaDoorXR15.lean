-- by px.py, a program of this session, over the kit's printer: functions given by hand stand beside printed ones. Lean checks all of it.
import Derived.Test.YthlnjbaichkipaaDoorXR0
import Derived.Test.YthlnjbaichkipaaDoorXR5
import Derived.Test.YthlnjbaichkipaaDoorXR9
import Derived.Test.YthlnjbaichkipaaDoorXR11
import Derived.Test.YthlnjbaichkipaaDoorXR14
namespace Go.Proofs.YthlnjbaichkipaaDoor.XR
open Go.RowKit Go.Proofs.YthlnjbaichkipaaDoorW.PrintWords Go.Proofs.YthlnjbaichkipaaDoorW.PrintLast Go.Proofs.YthlnjbaichkipaaDoorW.PrintMore
attribute [local go_sem] max2_int min2_int max_two min_two max_three min_three max_four min_four   -- for this text's walks alone
set_option linter.unusedVariables false
set_option linter.unusedSimpArgs false

/-! ### bellmanlaw04_TrailBack: function 4 -/
mutual
def bellmanlaw04_TrailBack.j0 : Nat → Int → Int → Int → Int → Bool → List ByteArray → List (S60) → Int → Bool → List ByteArray → List (S60) → Int → Bool → Option (Bool)
 | 0, _, _, _, _, _, _, _, _, _, _, _, _, _ => none
 | k + 1, x1, x4, x12, x15, x96, x239000, x239001, x239002, x239003, x256000, x256001, x256002, x256003 => if x96 = true then (some false) else (if x4 ≥ (wrap64 (x1 + x12)) then (bellmanlaw04_TrailBack.j1 k x4 (decide (x4 < (wrap64 (x1 + x15)))) x239000 x239001 x239002 x239003 x256000 x256001 x256002 x256003) else (bellmanlaw04_TrailBack.j1 k x4 false x239000 x239001 x239002 x239003 x256000 x256001 x256002 x256003))
def bellmanlaw04_TrailBack.j1 : Nat → Int → Bool → List ByteArray → List (S60) → Int → Bool → List ByteArray → List (S60) → Int → Bool → Option (Bool)
 | 0, _, _, _, _, _, _, _, _, _, _ => none
 | k + 1, x4, x108, x239000, x239001, x239002, x239003, x256000, x256001, x256002, x256003 => if x108 = true then (some true) else ((block_Read.f x239000 x239001 x239002 x239003 x4).bind fun bt268 => ((block_Read.f x256000 x256001 x256002 x256003 x4).bind fun bt270 => (if bt268.1.toList = bt270.1.toList then (some (bt268.2 == bt270.2)) else (some false))))
end
def bellmanlaw04_TrailBack.f (k : Nat) (l0_0 : List ByteArray) (l0_1 : List (S60)) (a0_2 : Int) (a0_3 : Bool) (a1 : Int) (a2 : Int) (a3 : ByteArray) (a4 : Int) : Option (Bool) := (bellmanlaw04_lives.f).bind fun t239 => (if t239 = true then ((trail_Read.f l0_0 l0_1 a0_2 a0_3 a1 a2).bind fun bt240 => (if bt240.2.2 = 0 then ((trail_Append.f l0_0 l0_1 a0_2 a0_3 a1 a2 bt240.2.1 a3).bind fun bt245 => (if bt245.2.2.2.2.2 = 0 then ((trail_Read.f bt245.1 bt245.2.1 bt245.2.2.1 bt245.2.2.2.1 a1 a2).bind fun bt256 => (if bt256.2.2 = 0 then (if (bt256.1.length : Int) ≤ (bt240.1.length : Int) then (bellmanlaw04_TrailBack.j0 k a1 a4 bt240.2.1 bt245.2.2.2.2.1 true l0_0 l0_1 a0_2 a0_3 bt245.1 bt245.2.1 bt245.2.2.1 bt245.2.2.2.1) else (if bt256.2.1 < bt245.2.2.2.2.1 then (bellmanlaw04_TrailBack.j0 k a1 a4 bt240.2.1 bt245.2.2.2.2.1 true l0_0 l0_1 a0_2 a0_3 bt245.1 bt245.2.1 bt245.2.2.1 bt245.2.2.2.1) else (if 0 ≤ (bt240.1.length : Int) then (if (bt240.1.length : Int) ≤ (bt256.1.length : Int) then ((bellmanref01_SameTexts.f k (bt256.1.take ((bt240.1.length : Int) : Int).toNat) bt240.1).bind fun t266 => (if t266 = true then (if (bt240.1.length : Int) < (bt256.1.length : Int) then (bellmanlaw04_TrailBack.j0 k a1 a4 bt240.2.1 bt245.2.2.2.2.1 ((rdOf ByteArray.empty bt256.1 (bt240.1.length : Int)).toList != a3.toList) l0_0 l0_1 a0_2 a0_3 bt245.1 bt245.2.1 bt245.2.2.1 bt245.2.2.2.1) else (none)) else (bellmanlaw04_TrailBack.j0 k a1 a4 bt240.2.1 bt245.2.2.2.2.1 true l0_0 l0_1 a0_2 a0_3 bt245.1 bt245.2.1 bt245.2.2.1 bt245.2.2.2.1))) else (none)) else (none)))) else (bellmanlaw04_TrailBack.j0 k a1 a4 bt240.2.1 bt245.2.2.2.2.1 true l0_0 l0_1 a0_2 a0_3 bt245.1 bt245.2.1 bt245.2.2.1 bt245.2.2.2.1))) else (some (bt245.2.2.2.2.1 == 0)))) else (if (bt240.1.length : Int) = 0 then (some (bt240.2.1 == 0)) else (none)))) else (none))
theorem bellmanlaw04_TrailBack.mono_l : ∀ k, (∀ y0 y1 y2 y3 y4 y5 y6 y7 y8 y9 y10 y11 y12, LeO (bellmanlaw04_TrailBack.j0 k y0 y1 y2 y3 y4 y5 y6 y7 y8 y9 y10 y11 y12) (bellmanlaw04_TrailBack.j0 (k + 1) y0 y1 y2 y3 y4 y5 y6 y7 y8 y9 y10 y11 y12)) ∧ (∀ y0 y1 y2 y3 y4 y5 y6 y7 y8 y9, LeO (bellmanlaw04_TrailBack.j1 k y0 y1 y2 y3 y4 y5 y6 y7 y8 y9) (bellmanlaw04_TrailBack.j1 (k + 1) y0 y1 y2 y3 y4 y5 y6 y7 y8 y9))
 | 0 => ⟨fun _ _ _ _ _ _ _ _ _ _ _ _ _ r h => by simp [bellmanlaw04_TrailBack.j0] at h, fun _ _ _ _ _ _ _ _ _ _ r h => by simp [bellmanlaw04_TrailBack.j1] at h⟩
 | k + 1 => by
  obtain ⟨ih0, ih1⟩ := bellmanlaw04_TrailBack.mono_l k
  refine ⟨?_, ?_⟩
  ·intro y0 y1 y2 y3 y4 y5 y6 y7 y8 y9 y10 y11 y12
   unfold bellmanlaw04_TrailBack.j0
   repeat' first
   | (with_reducible exact ih0 _ _ _ _ _ _ _ _ _ _ _ _ _)
   | (with_reducible exact ih1 _ _ _ _ _ _ _ _ _ _)
   | (with_reducible exact bellmanref01_SameTexts.mono _ _ _)
   | (with_reducible exact LeO.refl _)
   | (with_reducible exact LeO.none _)
   | (with_reducible refine LeO.ite ?_ ?_)
   | (with_reducible refine LeO.bind ?_ (fun _ => ?_))
   | exact ih0 _ _ _ _ _ _ _ _ _ _ _ _ _
   | exact ih1 _ _ _ _ _ _ _ _ _ _
   | exact bellmanref01_SameTexts.mono _ _ _
   | exact LeO.none _
   | refine LeO.ite ?_ ?_
   | refine LeO.bind ?_ (fun _ => ?_)
  ·intro y0 y1 y2 y3 y4 y5 y6 y7 y8 y9
   unfold bellmanlaw04_TrailBack.j1
   repeat' first
   | (with_reducible exact ih0 _ _ _ _ _ _ _ _ _ _ _ _ _)
   | (with_reducible exact ih1 _ _ _ _ _ _ _ _ _ _)
   | (with_reducible exact bellmanref01_SameTexts.mono _ _ _)
   | (with_reducible exact LeO.refl _)
   | (with_reducible exact LeO.none _)
   | (with_reducible refine LeO.ite ?_ ?_)
   | (with_reducible refine LeO.bind ?_ (fun _ => ?_))
   | exact ih0 _ _ _ _ _ _ _ _ _ _ _ _ _
   | exact ih1 _ _ _ _ _ _ _ _ _ _
   | exact bellmanref01_SameTexts.mono _ _ _
   | exact LeO.none _
   | refine LeO.ite ?_ ?_
   | refine LeO.bind ?_ (fun _ => ?_)
theorem bellmanlaw04_TrailBack.mono : ∀ a0 a1 a2 a3 a4 a5 a6 a7 k, LeO (bellmanlaw04_TrailBack.f k a0 a1 a2 a3 a4 a5 a6 a7) (bellmanlaw04_TrailBack.f (k + 1) a0 a1 a2 a3 a4 a5 a6 a7) := by
 intro a0 a1 a2 a3 a4 a5 a6 a7 k
 obtain ⟨ih0, ih1⟩ := bellmanlaw04_TrailBack.mono_l k
 unfold bellmanlaw04_TrailBack.f
 repeat' first
   | (with_reducible exact ih0 _ _ _ _ _ _ _ _ _ _ _ _ _)
   | (with_reducible exact ih1 _ _ _ _ _ _ _ _ _ _)
   | (with_reducible exact bellmanref01_SameTexts.mono _ _ _)
   | (with_reducible exact LeO.refl _)
   | (with_reducible exact LeO.none _)
   | (with_reducible refine LeO.ite ?_ ?_)
   | (with_reducible refine LeO.bind ?_ (fun _ => ?_))
   | exact ih0 _ _ _ _ _ _ _ _ _ _ _ _ _
   | exact ih1 _ _ _ _ _ _ _ _ _ _
   | exact bellmanref01_SameTexts.mono _ _ _
   | exact LeO.none _
   | refine LeO.ite ?_ ?_
   | refine LeO.bind ?_ (fun _ => ?_)
set_option maxHeartbeats 8000000 in
set_option maxRecDepth 100000 in
theorem bellmanlaw04_TrailBack.calls (k : Nat) (A0_0 : Option Addr) (c0_0 : Nat) (l0_0 : List ByteArray) (A0_1 : Option Addr) (c0_1 : Nat) (l0_1 : List (S60)) (a0_2 : Int) (a0_3 : Bool) (a1 : Int) (a2 : Int) (a3 : ByteArray) (a4 : Int) (r : Bool) (w : World) (hr0_0 : Kd.C Kd.string w A0_0 l0_0.length l0_0) (hc0_0 : l0_0.length ≤ c0_0) (hr0_1 : Kd.C k60 w A0_1 l0_1.length l0_1) (hc0_1 : l0_1.length ≤ c0_1) (h : bellmanlaw04_TrailBack.f k l0_0 l0_1 a0_2 a0_3 a1 a2 a3 a4 = some r) :
  Calls Tryd.prog 4 #[.agg #[.slice A0_0 l0_0.length c0_0, .slice A0_1 l0_1.length c0_1, .int .i64 a0_2, .bool a0_3], .int .i64 a1, .int .i64 a2, .string a3, .int .i64 a4] w fun e w' => e = .returned (.bool r) ∧ Below w.heap.size w w' := by
 have hu25 := Tryd.underlying25
 have HR0_0 := Aside0.mk hr0_0
 have HC0_0 := Aside0.mk hc0_0
 clear hr0_0 hc0_0
 have HR0_1 := Aside0.mk hr0_1
 have HC0_1 := Aside0.mk hc0_1
 clear hr0_1 hc0_1
 have HB := Aside0.mk (Below.refl w.heap.size w)
 have H : ((bellmanlaw04_lives.f).bind fun t239 => (if t239 = true then ((trail_Read.f l0_0 l0_1 a0_2 a0_3 a1 a2).bind fun bt240 => (if bt240.2.2 = 0 then ((trail_Append.f l0_0 l0_1 a0_2 a0_3 a1 a2 bt240.2.1 a3).bind fun bt245 => (if bt245.2.2.2.2.2 = 0 then ((trail_Read.f bt245.1 bt245.2.1 bt245.2.2.1 bt245.2.2.2.1 a1 a2).bind fun bt256 => (if bt256.2.2 = 0 then (if (bt256.1.length : Int) ≤ (bt240.1.length : Int) then (bellmanlaw04_TrailBack.j0 k a1 a4 bt240.2.1 bt245.2.2.2.2.1 true l0_0 l0_1 a0_2 a0_3 bt245.1 bt245.2.1 bt245.2.2.1 bt245.2.2.2.1) else (if bt256.2.1 < bt245.2.2.2.2.1 then (bellmanlaw04_TrailBack.j0 k a1 a4 bt240.2.1 bt245.2.2.2.2.1 true l0_0 l0_1 a0_2 a0_3 bt245.1 bt245.2.1 bt245.2.2.1 bt245.2.2.2.1) else (if 0 ≤ (bt240.1.length : Int) then (if (bt240.1.length : Int) ≤ (bt256.1.length : Int) then ((bellmanref01_SameTexts.f k (bt256.1.take ((bt240.1.length : Int) : Int).toNat) bt240.1).bind fun t266 => (if t266 = true then (if (bt240.1.length : Int) < (bt256.1.length : Int) then (bellmanlaw04_TrailBack.j0 k a1 a4 bt240.2.1 bt245.2.2.2.2.1 ((rdOf ByteArray.empty bt256.1 (bt240.1.length : Int)).toList != a3.toList) l0_0 l0_1 a0_2 a0_3 bt245.1 bt245.2.1 bt245.2.2.1 bt245.2.2.2.1) else (none)) else (bellmanlaw04_TrailBack.j0 k a1 a4 bt240.2.1 bt245.2.2.2.2.1 true l0_0 l0_1 a0_2 a0_3 bt245.1 bt245.2.1 bt245.2.2.1 bt245.2.2.2.1))) else (none)) else (none)))) else (bellmanlaw04_TrailBack.j0 k a1 a4 bt240.2.1 bt245.2.2.2.2.1 true l0_0 l0_1 a0_2 a0_3 bt245.1 bt245.2.1 bt245.2.2.1 bt245.2.2.2.1))) else (some (bt245.2.2.2.2.1 == 0)))) else (if (bt240.1.length : Int) = 0 then (some (bt240.2.1 == 0)) else (none)))) else (none))) = some r := h
 clear h
 replace H := Option.bind_eq_some_iff.mp H
 obtain ⟨t239, A60, H⟩ := H
 replace H : (if t239 = true then ((trail_Read.f l0_0 l0_1 a0_2 a0_3 a1 a2).bind fun bt240 => (if bt240.2.2 = 0 then ((trail_Append.f l0_0 l0_1 a0_2 a0_3 a1 a2 bt240.2.1 a3).bind fun bt245 => (if bt245.2.2.2.2.2 = 0 then ((trail_Read.f bt245.1 bt245.2.1 bt245.2.2.1 bt245.2.2.2.1 a1 a2).bind fun bt256 => (if bt256.2.2 = 0 then (if (bt256.1.length : Int) ≤ (bt240.1.length : Int) then (bellmanlaw04_TrailBack.j0 k a1 a4 bt240.2.1 bt245.2.2.2.2.1 true l0_0 l0_1 a0_2 a0_3 bt245.1 bt245.2.1 bt245.2.2.1 bt245.2.2.2.1) else (if bt256.2.1 < bt245.2.2.2.2.1 then (bellmanlaw04_TrailBack.j0 k a1 a4 bt240.2.1 bt245.2.2.2.2.1 true l0_0 l0_1 a0_2 a0_3 bt245.1 bt245.2.1 bt245.2.2.1 bt245.2.2.2.1) else (if 0 ≤ (bt240.1.length : Int) then (if (bt240.1.length : Int) ≤ (bt256.1.length : Int) then ((bellmanref01_SameTexts.f k (bt256.1.take ((bt240.1.length : Int) : Int).toNat) bt240.1).bind fun t266 => (if t266 = true then (if (bt240.1.length : Int) < (bt256.1.length : Int) then (bellmanlaw04_TrailBack.j0 k a1 a4 bt240.2.1 bt245.2.2.2.2.1 ((rdOf ByteArray.empty bt256.1 (bt240.1.length : Int)).toList != a3.toList) l0_0 l0_1 a0_2 a0_3 bt245.1 bt245.2.1 bt245.2.2.1 bt245.2.2.2.1) else (none)) else (bellmanlaw04_TrailBack.j0 k a1 a4 bt240.2.1 bt245.2.2.2.2.1 true l0_0 l0_1 a0_2 a0_3 bt245.1 bt245.2.1 bt245.2.2.1 bt245.2.2.2.1))) else (none)) else (none)))) else (bellmanlaw04_TrailBack.j0 k a1 a4 bt240.2.1 bt245.2.2.2.2.1 true l0_0 l0_1 a0_2 a0_3 bt245.1 bt245.2.1 bt245.2.2.1 bt245.2.2.2.1))) else (some (bt245.2.2.2.2.1 == 0)))) else (if (bt240.1.length : Int) = 0 then (some (bt240.2.1 == 0)) else (none)))) else (none)) = some r := H
 have A6 := Aside0.mk A60
 clear A60
 by_cases c7 : t239 = true
 ·subst c7
  have H1 : ((trail_Read.f l0_0 l0_1 a0_2 a0_3 a1 a2).bind fun bt240 => (if bt240.2.2 = 0 then ((trail_Append.f l0_0 l0_1 a0_2 a0_3 a1 a2 bt240.2.1 a3).bind fun bt245 => (if bt245.2.2.2.2.2 = 0 then ((trail_Read.f bt245.1 bt245.2.1 bt245.2.2.1 bt245.2.2.2.1 a1 a2).bind fun bt256 => (if bt256.2.2 = 0 then (if (bt256.1.length : Int) ≤ (bt240.1.length : Int) then (bellmanlaw04_TrailBack.j0 k a1 a4 bt240.2.1 bt245.2.2.2.2.1 true l0_0 l0_1 a0_2 a0_3 bt245.1 bt245.2.1 bt245.2.2.1 bt245.2.2.2.1) else (if bt256.2.1 < bt245.2.2.2.2.1 then (bellmanlaw04_TrailBack.j0 k a1 a4 bt240.2.1 bt245.2.2.2.2.1 true l0_0 l0_1 a0_2 a0_3 bt245.1 bt245.2.1 bt245.2.2.1 bt245.2.2.2.1) else (if 0 ≤ (bt240.1.length : Int) then (if (bt240.1.length : Int) ≤ (bt256.1.length : Int) then ((bellmanref01_SameTexts.f k (bt256.1.take ((bt240.1.length : Int) : Int).toNat) bt240.1).bind fun t266 => (if t266 = true then (if (bt240.1.length : Int) < (bt256.1.length : Int) then (bellmanlaw04_TrailBack.j0 k a1 a4 bt240.2.1 bt245.2.2.2.2.1 ((rdOf ByteArray.empty bt256.1 (bt240.1.length : Int)).toList != a3.toList) l0_0 l0_1 a0_2 a0_3 bt245.1 bt245.2.1 bt245.2.2.1 bt245.2.2.2.1) else (none)) else (bellmanlaw04_TrailBack.j0 k a1 a4 bt240.2.1 bt245.2.2.2.2.1 true l0_0 l0_1 a0_2 a0_3 bt245.1 bt245.2.1 bt245.2.2.1 bt245.2.2.2.1))) else (none)) else (none)))) else (bellmanlaw04_TrailBack.j0 k a1 a4 bt240.2.1 bt245.2.2.2.2.1 true l0_0 l0_1 a0_2 a0_3 bt245.1 bt245.2.1 bt245.2.2.1 bt245.2.2.2.1))) else (some (bt245.2.2.2.2.1 == 0)))) else (if (bt240.1.length : Int) = 0 then (some (bt240.2.1 == 0)) else (none)))) = some r := by rw [if_pos rfl] at H; exact H
  clear H
  have H := H1
  clear H1
  replace H := Option.bind_eq_some_iff.mp H
  obtain ⟨⟨t240, t243, t244⟩, A80, H⟩ := H
  replace H : (if t244 = 0 then ((trail_Append.f l0_0 l0_1 a0_2 a0_3 a1 a2 t243 a3).bind fun bt245 => (if bt245.2.2.2.2.2 = 0 then ((trail_Read.f bt245.1 bt245.2.1 bt245.2.2.1 bt245.2.2.2.1 a1 a2).bind fun bt256 => (if bt256.2.2 = 0 then (if (bt256.1.length : Int) ≤ (t240.length : Int) then (bellmanlaw04_TrailBack.j0 k a1 a4 t243 bt245.2.2.2.2.1 true l0_0 l0_1 a0_2 a0_3 bt245.1 bt245.2.1 bt245.2.2.1 bt245.2.2.2.1) else (if bt256.2.1 < bt245.2.2.2.2.1 then (bellmanlaw04_TrailBack.j0 k a1 a4 t243 bt245.2.2.2.2.1 true l0_0 l0_1 a0_2 a0_3 bt245.1 bt245.2.1 bt245.2.2.1 bt245.2.2.2.1) else (if 0 ≤ (t240.length : Int) then (if (t240.length : Int) ≤ (bt256.1.length : Int) then ((bellmanref01_SameTexts.f k (bt256.1.take ((t240.length : Int) : Int).toNat) t240).bind fun t266 => (if t266 = true then (if (t240.length : Int) < (bt256.1.length : Int) then (bellmanlaw04_TrailBack.j0 k a1 a4 t243 bt245.2.2.2.2.1 ((rdOf ByteArray.empty bt256.1 (t240.length : Int)).toList != a3.toList) l0_0 l0_1 a0_2 a0_3 bt245.1 bt245.2.1 bt245.2.2.1 bt245.2.2.2.1) else (none)) else (bellmanlaw04_TrailBack.j0 k a1 a4 t243 bt245.2.2.2.2.1 true l0_0 l0_1 a0_2 a0_3 bt245.1 bt245.2.1 bt245.2.2.1 bt245.2.2.2.1))) else (none)) else (none)))) else (bellmanlaw04_TrailBack.j0 k a1 a4 t243 bt245.2.2.2.2.1 true l0_0 l0_1 a0_2 a0_3 bt245.1 bt245.2.1 bt245.2.2.1 bt245.2.2.2.1))) else (some (bt245.2.2.2.2.1 == 0)))) else (if (t240.length : Int) = 0 then (some (t243 == 0)) else (none))) = some r := H
  have A8 := Aside0.mk A80
  clear A80
  by_cases c9 : t244 = 0
  ·rw [if_pos c9] at H
   have c9b0 : (t244 == 0) = true := beq_iff_eq.mpr c9
   have c9b1 : (t244 != 0) = false := bne_eq_false_iff_eq.mpr c9
   clear c9
   replace H := Option.bind_eq_some_iff.mp H
   obtain ⟨⟨t245, t248, t251, t252, t253, t254⟩, A100, H⟩ := H
   replace H : (if t254 = 0 then ((trail_Read.f t245 t248 t251 t252 a1 a2).bind fun bt256 => (if bt256.2.2 = 0 then (if (bt256.1.length : Int) ≤ (t240.length : Int) then (bellmanlaw04_TrailBack.j0 k a1 a4 t243 t253 true l0_0 l0_1 a0_2 a0_3 t245 t248 t251 t252) else (if bt256.2.1 < t253 then (bellmanlaw04_TrailBack.j0 k a1 a4 t243 t253 true l0_0 l0_1 a0_2 a0_3 t245 t248 t251 t252) else (if 0 ≤ (t240.length : Int) then (if (t240.length : Int) ≤ (bt256.1.length : Int) then ((bellmanref01_SameTexts.f k (bt256.1.take ((t240.length : Int) : Int).toNat) t240).bind fun t266 => (if t266 = true then (if (t240.length : Int) < (bt256.1.length : Int) then (bellmanlaw04_TrailBack.j0 k a1 a4 t243 t253 ((rdOf ByteArray.empty bt256.1 (t240.length : Int)).toList != a3.toList) l0_0 l0_1 a0_2 a0_3 t245 t248 t251 t252) else (none)) else (bellmanlaw04_TrailBack.j0 k a1 a4 t243 t253 true l0_0 l0_1 a0_2 a0_3 t245 t248 t251 t252))) else (none)) else (none)))) else (bellmanlaw04_TrailBack.j0 k a1 a4 t243 t253 true l0_0 l0_1 a0_2 a0_3 t245 t248 t251 t252))) else (some (t253 == 0))) = some r := H
   have A10 := Aside0.mk A100
   clear A100
   by_cases c11 : t254 = 0
   ·rw [if_pos c11] at H
    have c11b0 : (t254 == 0) = true := beq_iff_eq.mpr c11
    have c11b1 : (t254 != 0) = false := bne_eq_false_iff_eq.mpr c11
    clear c11
    replace H := Option.bind_eq_some_iff.mp H
    obtain ⟨⟨t256, t259, t260⟩, A120, H⟩ := H
    replace H : (if t260 = 0 then (if (t256.length : Int) ≤ (t240.length : Int) then (bellmanlaw04_TrailBack.j0 k a1 a4 t243 t253 true l0_0 l0_1 a0_2 a0_3 t245 t248 t251 t252) else (if t259 < t253 then (bellmanlaw04_TrailBack.j0 k a1 a4 t243 t253 true l0_0 l0_1 a0_2 a0_3 t245 t248 t251 t252) else (if 0 ≤ (t240.length : Int) then (if (t240.length : Int) ≤ (t256.length : Int) then ((bellmanref01_SameTexts.f k (t256.take ((t240.length : Int) : Int).toNat) t240).bind fun t266 => (if t266 = true then (if (t240.length : Int) < (t256.length : Int) then (bellmanlaw04_TrailBack.j0 k a1 a4 t243 t253 ((rdOf ByteArray.empty t256 (t240.length : Int)).toList != a3.toList) l0_0 l0_1 a0_2 a0_3 t245 t248 t251 t252) else (none)) else (bellmanlaw04_TrailBack.j0 k a1 a4 t243 t253 true l0_0 l0_1 a0_2 a0_3 t245 t248 t251 t252))) else (none)) else (none)))) else (bellmanlaw04_TrailBack.j0 k a1 a4 t243 t253 true l0_0 l0_1 a0_2 a0_3 t245 t248 t251 t252)) = some r := H
    have A12 := Aside0.mk A120
    clear A120
    have HC13 := Aside0.mk H
    clear H
    go_enter Tryd.func4, Tryd.ntmps4
    go_upto_region 10 with (first | ((with_reducible refine gate_dst (N := 5) rfl ?_); (try (refine gate_guard (by rfl) ?_; dsimp only)); refine box_event ?hg (N := 5) ?hd (cs := #[.slice A0_0 l0_0.length c0_0, .slice A0_1 l0_1.length c0_1, .int .i64 a0_2, .bool a0_3]) (t := 25) ?hr ?_; (case hd => rfl); (case hg => rfl); (case hr => first | (go_simp; done) | (go_simp; rfl)); intro gb238 hg w14 hbox hb; have n0_ := Aside0.mk (below_step (by repeat (first | (with_reducible first | exact HB.out | apply below_alloc | apply pw_below_drewN | apply below_drew1) | exact HB.out)) hb); have n1_ := Aside0.mk (hbox); have n2_ := Aside0.mk ((by rw [hg]; exact (below_size (by repeat (first | (with_reducible first | exact HB.out | apply below_alloc | apply pw_below_drewN | apply below_drew1) | exact HB.out))) : w.heap.size ≤ gb238)); have n3_ := Aside0.mk ((by rw [hg]; exact (below_size (by repeat (first | (with_reducible first | exact HB.out | apply below_alloc | apply pw_below_drewN | apply below_drew1) | exact HB.out))) : w.heap.size ≤ gb238)); clear HB; have HB := n0_; have BK238 := n1_; have GW238 := n2_; have GE238 := n3_; clear n0_ n1_ n2_ n3_; clear hb hbox hg) | ((with_reducible refine gate_callee (f := 7) rfl ?_); refine goesL_ (some 24) rfl rfl Tryd.func7 (by kernel_rfl) rfl #[] rfl (by (try simp only [List.map_toArray, List.map_cons, List.map_nil]); first | done | rfl | (simp only [List.length_drop, List.length_take]; rfl)) ?_; (with_reducible refine (bellmanlaw04_lives.calls  true _ A6.out).mono ?_); rintro e w15 ⟨rfl, hb⟩; refine ⟨_, rfl, ?_⟩; have n0_ := Aside0.mk (blk_below (g := gb238) (o := .cells #[.slice A0_0 l0_0.length c0_0, .slice A0_1 l0_1.length c0_1, .int .i64 a0_2, .bool a0_3] 25 (0, 0)) (by (with_reducible repeat (first | refine blk_drewN ?_ _ | refine blk_drew ?_ | refine blk_alloc ?_ _)); exact BK238.out) hb); have n1_ := Aside0.mk (below_step (by repeat (first | (with_reducible first | exact HB.out | apply below_alloc | apply pw_below_drewN | apply below_drew1 | refine below_set ?_ GE238.out) | exact HB.out)) hb); clear BK238; clear HB; have BK238 := n0_; have HB := n1_; clear n0_ n1_; (try clear hb); (try clear hb2); (try clear hk); (try clear hi); have hcz16_0 : w15.cell? ⟨gb238, 0, none⟩ = some (.slice A0_0 l0_0.length c0_0) := (blk_cell BK238.out 0).trans rfl; have hcz16_1 : w15.cell? ⟨gb238, 1, none⟩ = some (.slice A0_1 l0_1.length c0_1) := (blk_cell BK238.out 1).trans rfl; have hcz16_2 : w15.cell? ⟨gb238, 2, none⟩ = some (.int .i64 a0_2) := (blk_cell BK238.out 2).trans rfl; have hcz16_3 : w15.cell? ⟨gb238, 3, none⟩ = some (.bool a0_3) := (blk_cell BK238.out 3).trans rfl; have hfz16_0 := blk_frozen BK238.out 0; have hfz16_1 := blk_frozen BK238.out 1; have hfz16_2 := blk_frozen BK238.out 2; have hfz16_3 := blk_frozen BK238.out 3) | ((with_reducible refine gate_callee (f := 9) rfl ?_); refine goesL_ (some 30) rfl rfl Tryd.func9 (by kernel_rfl) rfl #[.agg #[.slice A0_0 l0_0.length c0_0, .slice A0_1 l0_1.length c0_1, .int .i64 a0_2, .bool a0_3], .int .i64 a1, .int .i64 a2] rfl (by (try simp only [List.map_toArray, List.map_cons, List.map_nil]); first | done | rfl | (simp only [List.length_drop, List.length_take]; rfl)) ?_; (with_reducible refine (trail_Read.calls _ _ l0_0 _ _ l0_1 a0_2 a0_3 a1 a2 t240 t243 t244 _ ?side1 ?side2 ?side3 ?side4 A8.out).mono ?_); (case side1 => repeat (first | exact (Kd.C_below HR0_0.out HB.out) | (with_reducible refine Kd.C_alloc ?_ _) | (with_reducible refine Kd.C_drewN ?_ _) | (with_reducible refine Kd.C_drew ?_))); (case side2 => exact HC0_0.out); (case side3 => repeat (first | exact (Kd.C_below HR0_1.out HB.out) | (with_reducible refine Kd.C_alloc ?_ _) | (with_reducible refine Kd.C_drewN ?_ _) | (with_reducible refine Kd.C_drew ?_))); (case side4 => exact HC0_1.out); rintro e w17 ⟨v241, rfl, ho0, hb⟩; refine ⟨_, rfl, ?_⟩; have n0_ := Aside0.mk (Kd.V_lower (Kd.V_mono (ok' := fun k_ => k_ ≠ gb238) ho0 (fun k_ hk_ => (Kd.freshB (g := gb238) (o := .cells #[.slice A0_0 l0_0.length c0_0, .slice A0_1 l0_1.length c0_1, .int .i64 a0_2, .bool a0_3] 25 (0, 0)) (by (with_reducible repeat (first | refine blk_drewN ?_ _ | refine blk_drew ?_ | refine blk_alloc ?_ _)); exact BK238.out) k_ hk_))) (below_size (by repeat (first | (with_reducible first | exact HB.out | apply below_alloc | apply pw_below_drewN | apply below_drew1 | refine below_set ?_ GE238.out) | exact HB.out)))); have n1_ := Aside0.mk (blk_below (g := gb238) (o := .cells #[.slice A0_0 l0_0.length c0_0, .slice A0_1 l0_1.length c0_1, .int .i64 a0_2, .bool a0_3] 25 (0, 0)) (by (with_reducible repeat (first | refine blk_drewN ?_ _ | refine blk_drew ?_ | refine blk_alloc ?_ _)); exact BK238.out) hb); have n2_ := Aside0.mk (below_step (by repeat (first | (with_reducible first | exact HB.out | apply below_alloc | apply pw_below_drewN | apply below_drew1 | refine below_set ?_ GE238.out) | exact HB.out)) hb); clear BK238; clear HB; have HO242 := n0_; have BK238 := n1_; have HB := n2_; clear n0_ n1_ n2_; (try clear hb); (try clear hb2); (try clear hk); (try clear hi); (try clear ho0); have hcz18_0 : w17.cell? ⟨gb238, 0, none⟩ = some (.slice A0_0 l0_0.length c0_0) := (blk_cell BK238.out 0).trans rfl; have hcz18_1 : w17.cell? ⟨gb238, 1, none⟩ = some (.slice A0_1 l0_1.length c0_1) := (blk_cell BK238.out 1).trans rfl; have hcz18_2 : w17.cell? ⟨gb238, 2, none⟩ = some (.int .i64 a0_2) := (blk_cell BK238.out 2).trans rfl; have hcz18_3 : w17.cell? ⟨gb238, 3, none⟩ = some (.bool a0_3) := (blk_cell BK238.out 3).trans rfl; have hfz18_0 := blk_frozen BK238.out 0; have hfz18_1 := blk_frozen BK238.out 1; have hfz18_2 := blk_frozen BK238.out 2; have hfz18_3 := blk_frozen BK238.out 3) | ((with_reducible refine gate_callee (f := 11) rfl ?_); refine goesL_ (some 49) rfl rfl Tryd.func11 (by kernel_rfl) rfl #[.agg #[.slice A0_0 l0_0.length c0_0, .slice A0_1 l0_1.length c0_1, .int .i64 a0_2, .bool a0_3], .int .i64 a1, .int .i64 a2, .int .i64 t243, .string a3] rfl (by (try simp only [List.map_toArray, List.map_cons, List.map_nil]); first | done | rfl | (simp only [List.length_drop, List.length_take]; rfl)) ?_; (with_reducible refine (trail_Append.calls _ _ l0_0 _ _ l0_1 a0_2 a0_3 a1 a2 t243 a3 t245 t248 t251 t252 t253 t254 _ ?side1 ?side2 ?side3 ?side4 A10.out).mono ?_); (case side1 => repeat (first | exact (Kd.C_below HR0_0.out HB.out) | (with_reducible refine Kd.C_alloc ?_ _) | (with_reducible refine Kd.C_drewN ?_ _) | (with_reducible refine Kd.C_drew ?_))); (case side2 => exact HC0_0.out); (case side3 => repeat (first | exact (Kd.C_below HR0_1.out HB.out) | (with_reducible refine Kd.C_alloc ?_ _) | (with_reducible refine Kd.C_drewN ?_ _) | (with_reducible refine Kd.C_drew ?_))); (case side4 => exact HC0_1.out); rintro e w19 ⟨v246, v249, rfl, ho0, ho1, hb⟩; refine ⟨_, rfl, ?_⟩; have n0_ := Aside0.mk (Kd.V_below (by (with_reducible repeat (first | apply Kd.V_alloc | apply Kd.V_drewN | apply Kd.V_drew)); exact HO242.out) hb); have n1_ := Aside0.mk (Kd.V_lower (Kd.V_mono (ok' := fun k_ => k_ ≠ gb238) ho0 (fun k_ hk_ => (Kd.freshB (g := gb238) (o := .cells #[.slice A0_0 l0_0.length c0_0, .slice A0_1 l0_1.length c0_1, .int .i64 a0_2, .bool a0_3] 25 (0, 0)) (by (with_reducible repeat (first | refine blk_drewN ?_ _ | refine blk_drew ?_ | refine blk_alloc ?_ _)); exact BK238.out) k_ hk_))) (below_size (by repeat (first | (with_reducible first | exact HB.out | apply below_alloc | apply pw_below_drewN | apply below_drew1 | refine below_set ?_ GE238.out) | exact HB.out)))); have n2_ := Aside0.mk (Kd.V_lower (Kd.V_mono (ok' := fun k_ => k_ ≠ gb238) ho1 (fun k_ hk_ => (Kd.freshB (g := gb238) (o := .cells #[.slice A0_0 l0_0.length c0_0, .slice A0_1 l0_1.length c0_1, .int .i64 a0_2, .bool a0_3] 25 (0, 0)) (by (with_reducible repeat (first | refine blk_drewN ?_ _ | refine blk_drew ?_ | refine blk_alloc ?_ _)); exact BK238.out) k_ hk_))) (below_size (by repeat (first | (with_reducible first | exact HB.out | apply below_alloc | apply pw_below_drewN | apply below_drew1 | refine below_set ?_ GE238.out) | exact HB.out)))); have n3_ := Aside0.mk (blk_below (g := gb238) (o := .cells #[.slice A0_0 l0_0.length c0_0, .slice A0_1 l0_1.length c0_1, .int .i64 a0_2, .bool a0_3] 25 (0, 0)) (by (with_reducible repeat (first | refine blk_drewN ?_ _ | refine blk_drew ?_ | refine blk_alloc ?_ _)); exact BK238.out) hb); have n4_ := Aside0.mk (below_step (by repeat (first | (with_reducible first | exact HB.out | apply below_alloc | apply pw_below_drewN | apply below_drew1 | refine below_set ?_ GE238.out) | exact HB.out)) hb); clear HO242; clear BK238; clear HB; have HO242 := n0_; have HO247 := n1_; have HO250 := n2_; have BK238 := n3_; have HB := n4_; clear n0_ n1_ n2_ n3_ n4_; (try clear hb); (try clear hb2); (try clear hk); (try clear hi); (try clear ho0); (try clear ho1)) | ((with_reducible refine gate_dst (N := 14) rfl ?_); (try (refine gate_guard (by rfl) ?_; dsimp only)); refine box_event ?hg (N := 14) ?hd (cs := #[.slice none 0 0, .slice none 0 0, .int .i64 0, .bool false]) (t := 25) ?hr ?_; (case hd => rfl); (case hg => rfl); (case hr => first | (go_simp; done) | (go_simp; rfl)); intro gb255 hg w20 hbox hb; have n0_ := Aside0.mk (Kd.V_below (Kd.V_elderB (by (with_reducible repeat (first | apply Kd.V_alloc | apply Kd.V_drewN | apply Kd.V_drew)); exact HO242.out) gb255 (Nat.le_of_eq hg.symm)) hb); have n1_ := Aside0.mk (Kd.V_below (Kd.V_elderB (by (with_reducible repeat (first | apply Kd.V_alloc | apply Kd.V_drewN | apply Kd.V_drew)); exact HO247.out) gb255 (Nat.le_of_eq hg.symm)) hb); have n2_ := Aside0.mk (Kd.V_below (Kd.V_elderB (by (with_reducible repeat (first | apply Kd.V_alloc | apply Kd.V_drewN | apply Kd.V_drew)); exact HO250.out) gb255 (Nat.le_of_eq hg.symm)) hb); have n3_ := Aside0.mk (blk_below (g := gb238) (o := .cells #[.slice A0_0 l0_0.length c0_0, .slice A0_1 l0_1.length c0_1, .int .i64 a0_2, .bool a0_3] 25 (0, 0)) (by (with_reducible repeat (first | refine blk_drewN ?_ _ | refine blk_drew ?_ | refine blk_alloc ?_ _)); exact BK238.out) hb); have n4_ := Aside0.mk (below_step (by repeat (first | (with_reducible first | exact HB.out | apply below_alloc | apply pw_below_drewN | apply below_drew1 | refine below_set ?_ GE238.out) | exact HB.out)) hb); have n5_ := Aside0.mk (hbox); have n6_ := Aside0.mk ((by rw [hg]; exact (below_size (by repeat (first | (with_reducible first | exact HB.out | apply below_alloc | apply pw_below_drewN | apply below_drew1 | refine below_set ?_ GE238.out) | exact HB.out))) : w.heap.size ≤ gb255)); have n7_ := Aside0.mk ((by rw [hg]; exact (below_size (by repeat (first | (with_reducible first | exact HB.out | apply below_alloc | apply pw_below_drewN | apply below_drew1 | refine below_set ?_ GE238.out) | exact HB.out))) : w.heap.size ≤ gb255)); have n8_ := Aside0.mk ((by rw [hg]; exact Nat.ne_of_lt (blk_lt (g := gb238) (o := .cells #[.slice A0_0 l0_0.length c0_0, .slice A0_1 l0_1.length c0_1, .int .i64 a0_2, .bool a0_3] 25 (0, 0)) (by (with_reducible repeat (first | refine blk_drewN ?_ _ | refine blk_drew ?_ | refine blk_alloc ?_ _)); exact BK238.out)) : gb238 ≠ gb255)); have n9_ := Aside0.mk ((by rw [hg]; exact Nat.ne_of_gt (blk_lt (g := gb238) (o := .cells #[.slice A0_0 l0_0.length c0_0, .slice A0_1 l0_1.length c0_1, .int .i64 a0_2, .bool a0_3] 25 (0, 0)) (by (with_reducible repeat (first | refine blk_drewN ?_ _ | refine blk_drew ?_ | refine blk_alloc ?_ _)); exact BK238.out)) : gb255 ≠ gb238)); clear HO242; clear HO247; clear HO250; clear BK238; clear HB; have HO242 := n0_; have HO247 := n1_; have HO250 := n2_; have BK238 := n3_; have HB := n4_; have BK255 := n5_; have GW255 := n6_; have GE255 := n7_; have NB238_255 := n8_; have NB255_238 := n9_; clear n0_ n1_ n2_ n3_ n4_ n5_ n6_ n7_ n8_ n9_; clear hb hbox hg; obtain ⟨Ao21, co21, eo21⟩ := Kd.V_slice HO247.out; subst eo21; have hnb22 := NB255_238.out; have hnc22 := NB238_255.out; have hcz23_0 : w20.cell? ⟨gb255, 0, none⟩ = some (.slice none 0 0) := (blk_cell BK255.out 0).trans rfl; have hcz23_1 : w20.cell? ⟨gb255, 1, none⟩ = some (.slice none 0 0) := (blk_cell BK255.out 1).trans rfl; have hcz23_2 : w20.cell? ⟨gb255, 2, none⟩ = some (.int .i64 0) := (blk_cell BK255.out 2).trans rfl; have hcz23_3 : w20.cell? ⟨gb255, 3, none⟩ = some (.bool false) := (blk_cell BK255.out 3).trans rfl; have hfz23_0 := blk_frozen BK255.out 0; have hfz23_1 := blk_frozen BK255.out 1; have hfz23_2 := blk_frozen BK255.out 2; have hfz23_3 := blk_frozen BK255.out 3; obtain ⟨Ao24, co24, eo24⟩ := Kd.V_slice HO250.out; subst eo24) | ((with_reducible refine gate_callee (f := 9) rfl ?_); refine goesL_ (some 61) rfl rfl Tryd.func9 (by kernel_rfl) rfl #[.agg #[.slice Ao21 t245.length co21, .slice Ao24 t248.length co24, .int .i64 t251, .bool t252], .int .i64 a1, .int .i64 a2] rfl (by (try simp only [List.map_toArray, List.map_cons, List.map_nil]); first | done | rfl | (simp only [List.length_drop, List.length_take]; rfl)) ?_; (with_reducible refine (trail_Read.calls _ _ t245 _ _ t248 t251 t252 a1 a2 t256 t259 t260 _ ?side1 ?side2 ?side3 ?side4 A12.out).mono ?_); (case side1 => refine (Kd.V_reads' (e := 9) (base := w.heap.size) (ok := fun k_ => (k_ ≠ gb238 ∧ k_ ≠ gb255)) (n := t245.length) (c := co21) ?_).2.2; exact (by (with_reducible repeat (first | apply Kd.V_alloc | apply Kd.V_drewN | apply Kd.V_drew)); exact (Kd.V_mono (Kd.V_far (p := ⟨gb255, 3, none⟩) (Kd.V_far (p := ⟨gb255, 2, none⟩) (Kd.V_far (p := ⟨gb255, 1, none⟩) (Kd.V_far (p := ⟨gb255, 0, none⟩) (Kd.V_mono HO247.out (fun k_ hk => (⟨hk, hk.2⟩ : _ ∧ k_ ≠ gb255))) (fun _ hk => hk.2) (.slice Ao21 t245.length co21)) (fun _ hk => hk.2) (.slice Ao24 t248.length co24)) (fun _ hk => hk.2) (.int .i64 t251)) (fun _ hk => hk.2) (.bool t252)) (fun _ h_ => h_.1)))); (case side2 => exact (Kd.V_reads' HO247.out).2.1); (case side3 => refine (Kd.V_reads' (e := 60) (base := w.heap.size) (ok := fun k_ => (k_ ≠ gb238 ∧ k_ ≠ gb255)) (n := t248.length) (c := co24) ?_).2.2; exact (by (with_reducible repeat (first | apply Kd.V_alloc | apply Kd.V_drewN | apply Kd.V_drew)); exact (Kd.V_mono (Kd.V_far (p := ⟨gb255, 3, none⟩) (Kd.V_far (p := ⟨gb255, 2, none⟩) (Kd.V_far (p := ⟨gb255, 1, none⟩) (Kd.V_far (p := ⟨gb255, 0, none⟩) (Kd.V_mono HO250.out (fun k_ hk => (⟨hk, hk.2⟩ : _ ∧ k_ ≠ gb255))) (fun _ hk => hk.2) (.slice Ao21 t245.length co21)) (fun _ hk => hk.2) (.slice Ao24 t248.length co24)) (fun _ hk => hk.2) (.int .i64 t251)) (fun _ hk => hk.2) (.bool t252)) (fun _ h_ => h_.1)))); (case side4 => exact (Kd.V_reads' HO250.out).2.1); rintro e w25 ⟨v257, rfl, ho0, hb⟩; refine ⟨_, rfl, ?_⟩; have n0_ := Aside0.mk (Kd.V_below (by (with_reducible repeat (first | apply Kd.V_alloc | apply Kd.V_drewN | apply Kd.V_drew)); exact (Kd.V_mono (Kd.V_far (p := ⟨gb255, 3, none⟩) (Kd.V_far (p := ⟨gb255, 2, none⟩) (Kd.V_far (p := ⟨gb255, 1, none⟩) (Kd.V_far (p := ⟨gb255, 0, none⟩) (Kd.V_mono HO242.out (fun k_ hk => (⟨hk, hk.2⟩ : _ ∧ k_ ≠ gb255))) (fun _ hk => hk.2) (.slice Ao21 t245.length co21)) (fun _ hk => hk.2) (.slice Ao24 t248.length co24)) (fun _ hk => hk.2) (.int .i64 t251)) (fun _ hk => hk.2) (.bool t252)) (fun _ h_ => h_.1))) hb); have n1_ := Aside0.mk (Kd.V_below (by (with_reducible repeat (first | apply Kd.V_alloc | apply Kd.V_drewN | apply Kd.V_drew)); exact (Kd.V_mono (Kd.V_far (p := ⟨gb255, 3, none⟩) (Kd.V_far (p := ⟨gb255, 2, none⟩) (Kd.V_far (p := ⟨gb255, 1, none⟩) (Kd.V_far (p := ⟨gb255, 0, none⟩) (Kd.V_mono HO247.out (fun k_ hk => (⟨hk, hk.2⟩ : _ ∧ k_ ≠ gb255))) (fun _ hk => hk.2) (.slice Ao21 t245.length co21)) (fun _ hk => hk.2) (.slice Ao24 t248.length co24)) (fun _ hk => hk.2) (.int .i64 t251)) (fun _ hk => hk.2) (.bool t252)) (fun _ h_ => h_.1))) hb); have n2_ := Aside0.mk (Kd.V_below (by (with_reducible repeat (first | apply Kd.V_alloc | apply Kd.V_drewN | apply Kd.V_drew)); exact (Kd.V_mono (Kd.V_far (p := ⟨gb255, 3, none⟩) (Kd.V_far (p := ⟨gb255, 2, none⟩) (Kd.V_far (p := ⟨gb255, 1, none⟩) (Kd.V_far (p := ⟨gb255, 0, none⟩) (Kd.V_mono HO250.out (fun k_ hk => (⟨hk, hk.2⟩ : _ ∧ k_ ≠ gb255))) (fun _ hk => hk.2) (.slice Ao21 t245.length co21)) (fun _ hk => hk.2) (.slice Ao24 t248.length co24)) (fun _ hk => hk.2) (.int .i64 t251)) (fun _ hk => hk.2) (.bool t252)) (fun _ h_ => h_.1))) hb); have n3_ := Aside0.mk (Kd.V_lower (Kd.V_mono (ok' := fun k_ => k_ ≠ gb238 ∧ k_ ≠ gb255) ho0 (fun k_ hk_ => ⟨(Kd.freshB (g := gb238) (o := .cells #[.slice A0_0 l0_0.length c0_0, .slice A0_1 l0_1.length c0_1, .int .i64 a0_2, .bool a0_3] 25 (0, 0)) (by (with_reducible repeat (first | refine blk_drewN ?_ _ | refine blk_drew ?_ | refine blk_alloc ?_ _)); refine blk_far ?_ NB238_255.out _; (with_reducible repeat (first | refine blk_drewN ?_ _ | refine blk_drew ?_ | refine blk_alloc ?_ _)); refine blk_far ?_ NB238_255.out _; (with_reducible repeat (first | refine blk_drewN ?_ _ | refine blk_drew ?_ | refine blk_alloc ?_ _)); refine blk_far ?_ NB238_255.out _; (with_reducible repeat (first | refine blk_drewN ?_ _ | refine blk_drew ?_ | refine blk_alloc ?_ _)); refine blk_far ?_ NB238_255.out _; (with_reducible repeat (first | refine blk_drewN ?_ _ | refine blk_drew ?_ | refine blk_alloc ?_ _)); exact BK238.out) k_ hk_), (Kd.freshB (g := gb255) (o := .cells #[.slice Ao21 t245.length co21, .slice Ao24 t248.length co24, .int .i64 t251, .bool t252] 25 (0, 0)) (by (with_reducible repeat (first | refine blk_drewN ?_ _ | refine blk_drew ?_ | refine blk_alloc ?_ _)); refine blk_put (cs := #[.slice Ao21 t245.length co21, .slice Ao24 t248.length co24, .int .i64 t251, .bool false]) ?_ 3 _ rfl; (with_reducible repeat (first | refine blk_drewN ?_ _ | refine blk_drew ?_ | refine blk_alloc ?_ _)); refine blk_put (cs := #[.slice Ao21 t245.length co21, .slice Ao24 t248.length co24, .int .i64 0, .bool false]) ?_ 2 _ rfl; (with_reducible repeat (first | refine blk_drewN ?_ _ | refine blk_drew ?_ | refine blk_alloc ?_ _)); refine blk_put (cs := #[.slice Ao21 t245.length co21, .slice none 0 0, .int .i64 0, .bool false]) ?_ 1 _ rfl; (with_reducible repeat (first | refine blk_drewN ?_ _ | refine blk_drew ?_ | refine blk_alloc ?_ _)); refine blk_put (cs := #[.slice none 0 0, .slice none 0 0, .int .i64 0, .bool false]) ?_ 0 _ rfl; (with_reducible repeat (first | refine blk_drewN ?_ _ | refine blk_drew ?_ | refine blk_alloc ?_ _)); exact BK255.out) k_ hk_)⟩)) (below_size (by repeat (first | (with_reducible first | exact HB.out | apply below_alloc | apply pw_below_drewN | apply below_drew1 | refine below_set ?_ GE238.out | refine below_set ?_ GE255.out) | exact HB.out)))); have n4_ := Aside0.mk (blk_below (g := gb238) (o := .cells #[.slice A0_0 l0_0.length c0_0, .slice A0_1 l0_1.length c0_1, .int .i64 a0_2, .bool a0_3] 25 (0, 0)) (by (with_reducible repeat (first | refine blk_drewN ?_ _ | refine blk_drew ?_ | refine blk_alloc ?_ _)); refine blk_far ?_ NB238_255.out _; (with_reducible repeat (first | refine blk_drewN ?_ _ | refine blk_drew ?_ | refine blk_alloc ?_ _)); refine blk_far ?_ NB238_255.out _; (with_reducible repeat (first | refine blk_drewN ?_ _ | refine blk_drew ?_ | refine blk_alloc ?_ _)); refine blk_far ?_ NB238_255.out _; (with_reducible repeat (first | refine blk_drewN ?_ _ | refine blk_drew ?_ | refine blk_alloc ?_ _)); refine blk_far ?_ NB238_255.out _; (with_reducible repeat (first | refine blk_drewN ?_ _ | refine blk_drew ?_ | refine blk_alloc ?_ _)); exact BK238.out) hb); have n5_ := Aside0.mk (blk_below (g := gb255) (o := .cells #[.slice Ao21 t245.length co21, .slice Ao24 t248.length co24, .int .i64 t251, .bool t252] 25 (0, 0)) (by (with_reducible repeat (first | refine blk_drewN ?_ _ | refine blk_drew ?_ | refine blk_alloc ?_ _)); refine blk_put (cs := #[.slice Ao21 t245.length co21, .slice Ao24 t248.length co24, .int .i64 t251, .bool false]) ?_ 3 _ rfl; (with_reducible repeat (first | refine blk_drewN ?_ _ | refine blk_drew ?_ | refine blk_alloc ?_ _)); refine blk_put (cs := #[.slice Ao21 t245.length co21, .slice Ao24 t248.length co24, .int .i64 0, .bool false]) ?_ 2 _ rfl; (with_reducible repeat (first | refine blk_drewN ?_ _ | refine blk_drew ?_ | refine blk_alloc ?_ _)); refine blk_put (cs := #[.slice Ao21 t245.length co21, .slice none 0 0, .int .i64 0, .bool false]) ?_ 1 _ rfl; (with_reducible repeat (first | refine blk_drewN ?_ _ | refine blk_drew ?_ | refine blk_alloc ?_ _)); refine blk_put (cs := #[.slice none 0 0, .slice none 0 0, .int .i64 0, .bool false]) ?_ 0 _ rfl; (with_reducible repeat (first | refine blk_drewN ?_ _ | refine blk_drew ?_ | refine blk_alloc ?_ _)); exact BK255.out) hb); have n6_ := Aside0.mk (below_step (by repeat (first | (with_reducible first | exact HB.out | apply below_alloc | apply pw_below_drewN | apply below_drew1 | refine below_set ?_ GE238.out | refine below_set ?_ GE255.out) | exact HB.out)) hb); clear HO242; clear HO247; clear HO250; clear BK238; clear BK255; clear HB; have HO242 := n0_; have HO247 := n1_; have HO250 := n2_; have HO258 := n3_; have BK238 := n4_; have BK255 := n5_; have HB := n6_; clear n0_ n1_ n2_ n3_ n4_ n5_ n6_; (try clear hb); (try clear hb2); (try clear hk); (try clear hi); (try clear ho0)))
    (try simp only [Act.put, List.setIfInBounds_toArray, List.set_cons_zero, List.set_cons_succ])
    go_cut [96] (fun v96 wc => ∃ (kq : Nat) (x96_12 : Bool), v96 = .bool x96_12 ∧ Aside0 (bellmanlaw04_TrailBack.j0 kq a1 a4 t243 t253 x96_12 l0_0 l0_1 a0_2 a0_3 t245 t248 t251 t252 = some r) ∧ Aside0 (kq ≤ k) ∧ Aside0 (Kd.V Kd.string 9 wc w.heap.size (fun k_ => k_ ≠ gb238 ∧ k_ ≠ gb255) (.slice Ao21 t245.length co21) t245) ∧ Aside0 (Kd.V k60 60 wc w.heap.size (fun k_ => k_ ≠ gb238 ∧ k_ ≠ gb255) (.slice Ao24 t248.length co24) t248) ∧ Aside0 (wc.heap[gb238]? = some (.cells #[(.slice A0_0 l0_0.length c0_0), (.slice A0_1 l0_1.length c0_1), .int .i64 a0_2, .bool a0_3] 25 (0, 0))) ∧ Aside0 (wc.heap[gb255]? = some (.cells #[(.slice Ao21 t245.length co21), (.slice Ao24 t248.length co24), .int .i64 t251, .bool t252] 25 (0, 0))) ∧ Aside0 (Below w.heap.size w wc))
    case first =>
     have H := HC13.out
     clear HC13
     by_cases c26 : t260 = 0
     ·rw [if_pos c26] at H
      have c26b0 : (t260 == 0) = true := beq_iff_eq.mpr c26
      have c26b1 : (t260 != 0) = false := bne_eq_false_iff_eq.mpr c26
      clear c26
      (first | rw [c26b0] | (simp only [i64_w, i32_w]; rw [c26b0]) | skip)
      by_cases c27 : (t256.length : Int) ≤ (t240.length : Int)
      ·rw [if_pos c27] at H
       have c27b0 : decide ((t256.length : Int) ≤ (t240.length : Int)) = true := decide_eq_true c27
       have c27b1 : decide (t256.length ≤ t240.length) = true := decide_eq_true (Int.ofNat_le.mp c27)
       clear c27
       have H' := Aside0.mk H
       clear H
       obtain ⟨Ao28, co28, eo28⟩ := Kd.V_slice HO258.out
       subst eo28
       obtain ⟨Ao29, co29, eo29⟩ := Kd.V_slice HO242.out
       subst eo29
       go_wp2
       go_meet
       case rel => exact ⟨_, (true), (by first | rfl | (simp; done) | (simp [*]; done)), H', ⟨by first | omega | exact Nat.le_refl _⟩, ⟨by (with_reducible repeat (first | apply Kd.V_alloc | apply Kd.V_drewN | apply Kd.V_drew)); exact HO247.out⟩, ⟨by (with_reducible repeat (first | apply Kd.V_alloc | apply Kd.V_drewN | apply Kd.V_drew)); exact HO250.out⟩, ⟨by (with_reducible repeat (first | refine blk_drewN ?_ _ | refine blk_drew ?_ | refine blk_alloc ?_ _)); exact BK238.out⟩, ⟨by (with_reducible repeat (first | refine blk_drewN ?_ _ | refine blk_drew ?_ | refine blk_alloc ?_ _)); exact BK255.out⟩, ⟨by repeat (first | (with_reducible first | exact HB.out | apply below_alloc | apply pw_below_drewN | apply below_drew1 | refine below_set ?_ GE238.out | refine below_set ?_ GE255.out) | exact HB.out)⟩⟩
      ·rw [if_neg c27] at H
       have c27b0 : decide ((t256.length : Int) ≤ (t240.length : Int)) = false := decide_eq_false c27
       have c27b1 : decide (t256.length ≤ t240.length) = false := decide_eq_false (fun h => c27 (Int.ofNat_le.mpr h))
       clear c27
       by_cases c30 : t259 < t253
       ·rw [if_pos c30] at H
        have c30b0 : decide (t259 < t253) = true := decide_eq_true c30
        clear c30
        have H' := Aside0.mk H
        clear H
        obtain ⟨Ao31, co31, eo31⟩ := Kd.V_slice HO258.out
        subst eo31
        obtain ⟨Ao32, co32, eo32⟩ := Kd.V_slice HO242.out
        subst eo32
        go_wp2
        go_meet
        case rel => exact ⟨_, (true), (by first | rfl | (simp; done) | (simp [*]; done)), H', ⟨by first | omega | exact Nat.le_refl _⟩, ⟨by (with_reducible repeat (first | apply Kd.V_alloc | apply Kd.V_drewN | apply Kd.V_drew)); exact HO247.out⟩, ⟨by (with_reducible repeat (first | apply Kd.V_alloc | apply Kd.V_drewN | apply Kd.V_drew)); exact HO250.out⟩, ⟨by (with_reducible repeat (first | refine blk_drewN ?_ _ | refine blk_drew ?_ | refine blk_alloc ?_ _)); exact BK238.out⟩, ⟨by (with_reducible repeat (first | refine blk_drewN ?_ _ | refine blk_drew ?_ | refine blk_alloc ?_ _)); exact BK255.out⟩, ⟨by repeat (first | (with_reducible first | exact HB.out | apply below_alloc | apply pw_below_drewN | apply below_drew1 | refine below_set ?_ GE238.out | refine below_set ?_ GE255.out) | exact HB.out)⟩⟩
       ·rw [if_neg c30] at H
        have c30b0 : decide (t259 < t253) = false := decide_eq_false c30
        clear c30
        by_cases c33 : 0 ≤ (t240.length : Int)
        ·rw [if_pos c33] at H
         have c33b0 := eq_true c33
         have c33b1 : decide (0 ≤ (t240.length : Int)) = true := decide_eq_true c33
         clear c33
         by_cases c34 : (t240.length : Int) ≤ (t256.length : Int)
         ·rw [if_pos c34] at H
          have c34b0 := eq_true c34
          have c34b1 : decide ((t240.length : Int) ≤ (t256.length : Int)) = true := decide_eq_true c34
          clear c34
          obtain ⟨y261, hy261⟩ : ∃ y_ : List ByteArray, y_ = (t256.take ((t240.length : Int) : Int).toNat) := ⟨_, rfl⟩
          replace H : ((bellmanref01_SameTexts.f k y261 t240).bind fun t266 => (if t266 = true then (if (t240.length : Int) < (t256.length : Int) then (bellmanlaw04_TrailBack.j0 k a1 a4 t243 t253 ((rdOf ByteArray.empty t256 (t240.length : Int)).toList != a3.toList) l0_0 l0_1 a0_2 a0_3 t245 t248 t251 t252) else (none)) else (bellmanlaw04_TrailBack.j0 k a1 a4 t243 t253 true l0_0 l0_1 a0_2 a0_3 t245 t248 t251 t252))) = some r := by first | (rw [hy261]; with_reducible exact H) | (have H2_ := (Option.bind_some _ _).symm.trans H; rw [hy261]; with_reducible exact H2_) | (have H2_ := (Option.bind_some _ _).symm.trans H; with_reducible exact H2_) | with_reducible exact H | (rw [hy261]; exact H) | exact H
          have Ny261 := Aside0.mk hy261
          clear hy261
          replace H := Option.bind_eq_some_iff.mp H
          obtain ⟨t266, A350, H⟩ := H
          replace H : (if t266 = true then (if (t240.length : Int) < (t256.length : Int) then (bellmanlaw04_TrailBack.j0 k a1 a4 t243 t253 ((rdOf ByteArray.empty t256 (t240.length : Int)).toList != a3.toList) l0_0 l0_1 a0_2 a0_3 t245 t248 t251 t252) else (none)) else (bellmanlaw04_TrailBack.j0 k a1 a4 t243 t253 true l0_0 l0_1 a0_2 a0_3 t245 t248 t251 t252)) = some r := H
          have A35 := Aside0.mk A350
          clear A350
          by_cases c36 : t266 = true
          ·subst c36
           have H1 : (if (t240.length : Int) < (t256.length : Int) then (bellmanlaw04_TrailBack.j0 k a1 a4 t243 t253 ((rdOf ByteArray.empty t256 (t240.length : Int)).toList != a3.toList) l0_0 l0_1 a0_2 a0_3 t245 t248 t251 t252) else (none)) = some r := by rw [if_pos rfl] at H; exact H
           clear H
           have H := H1
           clear H1
           by_cases c37 : (t240.length : Int) < (t256.length : Int)
           ·rw [if_pos c37] at H
            have c37b0 : decide ((t240.length : Int) < (t256.length : Int)) = true := decide_eq_true c37
            have c37b1 : decide (t240.length < t256.length) = true := decide_eq_true (Int.ofNat_lt.mp c37)
            clear c37
            have H' := Aside0.mk H
            clear H
            obtain ⟨Ao38, co38, eo38⟩ := Kd.V_slice HO258.out
            subst eo38
            obtain ⟨Ao39, co39, eo39⟩ := Kd.V_slice HO242.out
            subst eo39
            have q40 : ((t240.length : Int) : Int) ≤ ((t256.length : Int) : Int) := of_decide_eq_true (by first | (with_reducible assumption) | assumption)
            obtain ⟨i040, hi040, _, hsz40, _⟩ := info_parts info9
            have hroom40 : t256.length ≤ co38 := (Kd.V_reads' HO258.out).2.1
            have hC40 : Kd.F Kd.string _ _ Ao38 t256.length t256 := (Kd.V_at (base := w.heap.size) HO258.out).2.2
            have hcut40 := cut_to (P := Tryd.prog) 22 9 .i64 Tryd.underlying22 hi040 Ao38 t256.length co38 (t240.length : Int) (of_decide_eq_true (by first | (with_reducible assumption) | assumption)) q40 hroom40
            have hr40 := Kd.F_take (m := ((t240.length : Int) : Int).toNat) hC40 (by omega)
            have hy40 : y261.length = ((t240.length : Int) : Int).toNat := (by rw [Ny261.out, List.length_take]; omega)
            rw [← Ny261.out] at hr40
            rw [← hy40] at hcut40
            have HO265 := Aside0.mk (show Kd.V Kd.string 9 _ w.heap.size _ (.slice Ao38 y261.length co38) y261 from Kd.V_mk (by omega) hr40)
            have HC265 := Aside0.mk (show y261.length ≤ co38 from by omega)
            clear hr40 hC40 hroom40 hi040 hsz40
            have KY40 := Aside0.mk hy40
            clear hy40
            replace q40 := eq_true q40
            go_wp2_with (first | (go_at_call 12; (with_reducible refine (bellmanref01_SameTexts.calls k _ _ y261 _ _ t240 true _ ?side1 ?side2 ?side3 ?side4 A35.out).mono ?_); (case side1 => repeat (first | exact (Kd.V_reads' HO265.out).2.2 | (with_reducible refine Kd.C_alloc ?_ _) | (with_reducible refine Kd.C_drewN ?_ _) | (with_reducible refine Kd.C_drew ?_))); (case side2 => exact (Kd.V_reads' HO265.out).2.1); (case side3 => repeat (first | exact (Kd.V_reads' HO242.out).2.2 | (with_reducible refine Kd.C_alloc ?_ _) | (with_reducible refine Kd.C_drewN ?_ _) | (with_reducible refine Kd.C_drew ?_))); (case side4 => exact (Kd.V_reads' HO242.out).2.1); rintro e w' ⟨rfl, ⟨nd, rfl⟩⟩; have p267 : 0 ≤ ((t240.length : Int) : Int) := of_decide_eq_true (by first | (with_reducible assumption) | assumption); have q267 : (t240.length : Int) < (t256.length : Int) := of_decide_eq_true (by first | (with_reducible assumption) | assumption); obtain ⟨ad267, e267, hx267_0⟩ := Kd.at_string (Kd.V_reads' HO258.out).2.2 (t240.length : Int) p267 q267; cases e267; (try simp only [Go.IntWalk.toNatUp] at hx267_0); replace p267 := eq_true p267; replace q267 := eq_true q267))
            go_meet
            case rel => exact ⟨_, (((rdOf ByteArray.empty t256 (t240.length : Int)).toList != a3.toList)), (by first | rfl | (simp; done) | (simp [*]; done)), H', ⟨by first | omega | exact Nat.le_refl _⟩, ⟨by (with_reducible repeat (first | apply Kd.V_alloc | apply Kd.V_drewN | apply Kd.V_drew)); exact HO247.out⟩, ⟨by (with_reducible repeat (first | apply Kd.V_alloc | apply Kd.V_drewN | apply Kd.V_drew)); exact HO250.out⟩, ⟨by (with_reducible repeat (first | refine blk_drewN ?_ _ | refine blk_drew ?_ | refine blk_alloc ?_ _)); exact BK238.out⟩, ⟨by (with_reducible repeat (first | refine blk_drewN ?_ _ | refine blk_drew ?_ | refine blk_alloc ?_ _)); exact BK255.out⟩, ⟨by repeat (first | (with_reducible first | exact HB.out | apply below_alloc | apply pw_below_drewN | apply below_drew1 | refine below_set ?_ GE238.out | refine below_set ?_ GE255.out) | exact HB.out)⟩⟩
           ·rw [if_neg c37] at H
            exact absurd H (by simp)
          ·replace c36 := Bool.eq_false_iff.mpr c36
           subst c36
           have H1 : (bellmanlaw04_TrailBack.j0 k a1 a4 t243 t253 true l0_0 l0_1 a0_2 a0_3 t245 t248 t251 t252) = some r := by rw [if_neg (show ¬ (false = true) by decide)] at H; exact H
           clear H
           have H := H1
           clear H1
           have H' := Aside0.mk H
           clear H
           obtain ⟨Ao41, co41, eo41⟩ := Kd.V_slice HO258.out
           subst eo41
           obtain ⟨Ao42, co42, eo42⟩ := Kd.V_slice HO242.out
           subst eo42
           have q43 : ((t240.length : Int) : Int) ≤ ((t256.length : Int) : Int) := of_decide_eq_true (by first | (with_reducible assumption) | assumption)
           obtain ⟨i043, hi043, _, hsz43, _⟩ := info_parts info9
           have hroom43 : t256.length ≤ co41 := (Kd.V_reads' HO258.out).2.1
           have hC43 : Kd.F Kd.string _ _ Ao41 t256.length t256 := (Kd.V_at (base := w.heap.size) HO258.out).2.2
           have hcut43 := cut_to (P := Tryd.prog) 22 9 .i64 Tryd.underlying22 hi043 Ao41 t256.length co41 (t240.length : Int) (of_decide_eq_true (by first | (with_reducible assumption) | assumption)) q43 hroom43
           have hr43 := Kd.F_take (m := ((t240.length : Int) : Int).toNat) hC43 (by omega)
           have hy43 : y261.length = ((t240.length : Int) : Int).toNat := (by rw [Ny261.out, List.length_take]; omega)
           rw [← Ny261.out] at hr43
           rw [← hy43] at hcut43
           have HO265 := Aside0.mk (show Kd.V Kd.string 9 _ w.heap.size _ (.slice Ao41 y261.length co41) y261 from Kd.V_mk (by omega) hr43)
           have HC265 := Aside0.mk (show y261.length ≤ co41 from by omega)
           clear hr43 hC43 hroom43 hi043 hsz43
           have KY43 := Aside0.mk hy43
           clear hy43
           replace q43 := eq_true q43
           go_wp2_with (first | (go_at_call 12; (with_reducible refine (bellmanref01_SameTexts.calls k _ _ y261 _ _ t240 false _ ?side1 ?side2 ?side3 ?side4 A35.out).mono ?_); (case side1 => repeat (first | exact (Kd.V_reads' HO265.out).2.2 | (with_reducible refine Kd.C_alloc ?_ _) | (with_reducible refine Kd.C_drewN ?_ _) | (with_reducible refine Kd.C_drew ?_))); (case side2 => exact (Kd.V_reads' HO265.out).2.1); (case side3 => repeat (first | exact (Kd.V_reads' HO242.out).2.2 | (with_reducible refine Kd.C_alloc ?_ _) | (with_reducible refine Kd.C_drewN ?_ _) | (with_reducible refine Kd.C_drew ?_))); (case side4 => exact (Kd.V_reads' HO242.out).2.1); rintro e w' ⟨rfl, ⟨nd, rfl⟩⟩))
           go_meet
           case rel => exact ⟨_, (true), (by first | rfl | (simp; done) | (simp [*]; done)), H', ⟨by first | omega | exact Nat.le_refl _⟩, ⟨by (with_reducible repeat (first | apply Kd.V_alloc | apply Kd.V_drewN | apply Kd.V_drew)); exact HO247.out⟩, ⟨by (with_reducible repeat (first | apply Kd.V_alloc | apply Kd.V_drewN | apply Kd.V_drew)); exact HO250.out⟩, ⟨by (with_reducible repeat (first | refine blk_drewN ?_ _ | refine blk_drew ?_ | refine blk_alloc ?_ _)); exact BK238.out⟩, ⟨by (with_reducible repeat (first | refine blk_drewN ?_ _ | refine blk_drew ?_ | refine blk_alloc ?_ _)); exact BK255.out⟩, ⟨by repeat (first | (with_reducible first | exact HB.out | apply below_alloc | apply pw_below_drewN | apply below_drew1 | refine below_set ?_ GE238.out | refine below_set ?_ GE255.out) | exact HB.out)⟩⟩
         ·rw [if_neg c34] at H
          exact absurd H (by simp)
        ·rw [if_neg c33] at H
         exact absurd H (by simp)
     ·rw [if_neg c26] at H
      have c26b0 : (t260 == 0) = false := beq_eq_false_iff_ne.mpr c26
      have c26b1 : (t260 != 0) = true := bne_iff_ne.mpr c26
      (first | rw [c26b0] | (simp only [i64_w, i32_w]; rw [c26b0]) | skip)
      have H' := Aside0.mk H
      clear H
      go_wp2
      go_meet
      case rel => exact ⟨_, (true), (by first | rfl | (simp; done) | (simp [*]; done)), H', ⟨by first | omega | exact Nat.le_refl _⟩, ⟨by (with_reducible repeat (first | apply Kd.V_alloc | apply Kd.V_drewN | apply Kd.V_drew)); exact HO247.out⟩, ⟨by (with_reducible repeat (first | apply Kd.V_alloc | apply Kd.V_drewN | apply Kd.V_drew)); exact HO250.out⟩, ⟨by (with_reducible repeat (first | refine blk_drewN ?_ _ | refine blk_drew ?_ | refine blk_alloc ?_ _)); exact BK238.out⟩, ⟨by (with_reducible repeat (first | refine blk_drewN ?_ _ | refine blk_drew ?_ | refine blk_alloc ?_ _)); exact BK255.out⟩, ⟨by repeat (first | (with_reducible first | exact HB.out | apply below_alloc | apply pw_below_drewN | apply below_drew1 | refine below_set ?_ GE238.out | refine below_set ?_ GE255.out) | exact HB.out)⟩⟩
    case rest =>
     clear HC13
     try clear c1
     try clear c2
     try clear p2
     try clear q2
     try clear hx2
     try clear c3
     try clear c4
     try clear q4
     try clear c7
     try clear c9
     try clear c9b0
     try clear c9b1
     try clear c11
     try clear c11b0
     try clear c11b1
     try clear c22
     try clear c26
     try clear c26b0
     try clear c26b1
     try clear p26
     try clear q26
     try clear hx26
     try clear c27
     try clear c27b0
     try clear c27b1
     try clear c30
     try clear c30b0
     try clear c33
     try clear c33b0
     try clear c33b1
     try clear c34
     try clear c34b0
     try clear c34b1
     try clear c36
     try clear c37
     try clear c37b0
     try clear c37b1
     try clear q40
     try clear q43
     try clear hcz16_0
     try clear hcz16_1
     try clear hcz16_2
     try clear hcz16_3
     try clear hcz18_0
     try clear hcz18_1
     try clear hcz18_2
     try clear hcz18_3
     try clear hcz23_0
     try clear hcz23_1
     try clear hcz23_2
     try clear hcz23_3
     try clear hfz16_0
     try clear hfz16_1
     try clear hfz16_2
     try clear hfz16_3
     try clear hfz18_0
     try clear hfz18_1
     try clear hfz18_2
     try clear hfz18_3
     try clear hfz23_0
     try clear hfz23_1
     try clear hfz23_2
     try clear hfz23_3
     try clear hx267_0
     try clear p267
     try clear q267
     try clear q40
     try clear q43
     obtain ⟨kq, x96_12, rfl, HA, HJ12, HO_256000, HO_256001, BK238, BK255, HB⟩ := hcut
     cases kq with
     | zero => exact absurd HA.out (by simp [bellmanlaw04_TrailBack.j0])
     | succ kj12 =>
      have H := HA.out
      clear HA
      simp only [bellmanlaw04_TrailBack.j0] at H
      by_cases c44 : x96_12 = true
      ·subst c44
       have H1 : (some false) = some r := by rw [if_pos rfl] at H; exact H
       clear H
       have H := H1
       clear H1
       obtain rfl := Option.some.inj H
       go_wp2
       go_ret
       exact ⟨by first | rfl | (simp [errW_none, errW_some] <;> rfl) | (simp [*, errW_none, errW_some] <;> rfl), by repeat (first | (with_reducible first | exact HB.out | apply below_alloc | apply pw_below_drewN | apply below_drew1 | refine below_set ?_ GE238.out | refine below_set ?_ GE255.out) | exact HB.out)⟩
      ·replace c44 := Bool.eq_false_iff.mpr c44
       subst c44
       have H1 : (if a4 ≥ (wrap64 (a1 + t243)) then (bellmanlaw04_TrailBack.j1 kj12 a4 (decide (a4 < (wrap64 (a1 + t253)))) l0_0 l0_1 a0_2 a0_3 t245 t248 t251 t252) else (bellmanlaw04_TrailBack.j1 kj12 a4 false l0_0 l0_1 a0_2 a0_3 t245 t248 t251 t252)) = some r := by rw [if_neg (show ¬ (false = true) by decide)] at H; exact H
       clear H
       have H := H1
       clear H1
       have HC45 := Aside0.mk H
       clear H
       go_upto_region 12 with (fail)
       go_cut [108] (fun v108 wc => ∃ (kq : Nat) (x108_44 : Bool), v108 = .bool x108_44 ∧ Aside0 (bellmanlaw04_TrailBack.j1 kq a4 x108_44 l0_0 l0_1 a0_2 a0_3 t245 t248 t251 t252 = some r) ∧ Aside0 (kq ≤ kj12) ∧ Aside0 (Kd.V Kd.string 9 wc w.heap.size (fun k_ => k_ ≠ gb238 ∧ k_ ≠ gb255) (.slice Ao21 t245.length co21) t245) ∧ Aside0 (Kd.V k60 60 wc w.heap.size (fun k_ => k_ ≠ gb238 ∧ k_ ≠ gb255) (.slice Ao24 t248.length co24) t248) ∧ Aside0 (wc.heap[gb238]? = some (.cells #[(.slice A0_0 l0_0.length c0_0), (.slice A0_1 l0_1.length c0_1), .int .i64 a0_2, .bool a0_3] 25 (0, 0))) ∧ Aside0 (wc.heap[gb255]? = some (.cells #[(.slice Ao21 t245.length co21), (.slice Ao24 t248.length co24), .int .i64 t251, .bool t252] 25 (0, 0))) ∧ Aside0 (Below w.heap.size w wc))
       case first =>
        have H := HC45.out
        clear HC45
        by_cases c46 : a4 ≥ (wrap64 (a1 + t243))
        ·rw [if_pos c46] at H
         have c46b0 : decide ((wrap64 (a1 + t243)) ≤ a4) = true := decide_eq_true c46
         clear c46
         (first | rw [c46b0] | (simp only [i64_w, i32_w]; rw [c46b0]) | skip)
         have H' := Aside0.mk H
         clear H
         go_wp2
         go_meet
         case rel => exact ⟨_, (decide (a4 < (wrap64 (a1 + t253)))), (by first | rfl | (simp; done) | (simp [*]; done)), H', ⟨by have := HJ12.out; first | omega | exact Nat.le_refl _⟩, ⟨by (with_reducible repeat (first | apply Kd.V_alloc | apply Kd.V_drewN | apply Kd.V_drew)); exact HO_256000.out⟩, ⟨by (with_reducible repeat (first | apply Kd.V_alloc | apply Kd.V_drewN | apply Kd.V_drew)); exact HO_256001.out⟩, ⟨by (with_reducible repeat (first | refine blk_drewN ?_ _ | refine blk_drew ?_ | refine blk_alloc ?_ _)); exact BK238.out⟩, ⟨by (with_reducible repeat (first | refine blk_drewN ?_ _ | refine blk_drew ?_ | refine blk_alloc ?_ _)); exact BK255.out⟩, ⟨by repeat (first | (with_reducible first | exact HB.out | apply below_alloc | apply pw_below_drewN | apply below_drew1 | refine below_set ?_ GE238.out | refine below_set ?_ GE255.out) | exact HB.out)⟩⟩
        ·rw [if_neg c46] at H
         have c46b0 : decide ((wrap64 (a1 + t243)) ≤ a4) = false := decide_eq_false c46
         clear c46
         (first | rw [c46b0] | (simp only [i64_w, i32_w]; rw [c46b0]) | skip)
         have H' := Aside0.mk H
         clear H
         go_wp2
         go_meet
         case rel => exact ⟨_, (false), (by first | rfl | (simp; done) | (simp [*]; done)), H', ⟨by have := HJ12.out; first | omega | exact Nat.le_refl _⟩, ⟨by (with_reducible repeat (first | apply Kd.V_alloc | apply Kd.V_drewN | apply Kd.V_drew)); exact HO_256000.out⟩, ⟨by (with_reducible repeat (first | apply Kd.V_alloc | apply Kd.V_drewN | apply Kd.V_drew)); exact HO_256001.out⟩, ⟨by (with_reducible repeat (first | refine blk_drewN ?_ _ | refine blk_drew ?_ | refine blk_alloc ?_ _)); exact BK238.out⟩, ⟨by (with_reducible repeat (first | refine blk_drewN ?_ _ | refine blk_drew ?_ | refine blk_alloc ?_ _)); exact BK255.out⟩, ⟨by repeat (first | (with_reducible first | exact HB.out | apply below_alloc | apply pw_below_drewN | apply below_drew1 | refine below_set ?_ GE238.out | refine below_set ?_ GE255.out) | exact HB.out)⟩⟩
       case rest =>
        clear HC45
        try clear c1
        try clear c2
        try clear p2
        try clear q2
        try clear hx2
        try clear c3
        try clear c4
        try clear q4
        try clear p6
        try clear c7
        try clear c9
        try clear c9b0
        try clear c9b1
        try clear c11
        try clear c11b0
        try clear c11b1
        try clear c22
        try clear c26
        try clear c26b0
        try clear c26b1
        try clear p26
        try clear q26
        try clear hx26
        try clear c27
        try clear c27b0
        try clear c27b1
        try clear c30
        try clear c30b0
        try clear c33
        try clear c33b0
        try clear c33b1
        try clear c34
        try clear c34b0
        try clear c34b1
        try clear c36
        try clear c37
        try clear c37b0
        try clear c37b1
        try clear q40
        try clear q43
        try clear c44
        try clear c46
        try clear c46b0
        try clear hcz16_0
        try clear hcz16_1
        try clear hcz16_2
        try clear hcz16_3
        try clear hcz18_0
        try clear hcz18_1
        try clear hcz18_2
        try clear hcz18_3
        try clear hcz23_0
        try clear hcz23_1
        try clear hcz23_2
        try clear hcz23_3
        try clear hfz16_0
        try clear hfz16_1
        try clear hfz16_2
        try clear hfz16_3
        try clear hfz18_0
        try clear hfz18_1
        try clear hfz18_2
        try clear hfz18_3
        try clear hfz23_0
        try clear hfz23_1
        try clear hfz23_2
        try clear hfz23_3
        try clear hx267_0
        try clear p2
        try clear p26
        try clear p267
        try clear q2
        try clear q26
        try clear q267
        try clear q4
        try clear q40
        try clear q43
        obtain ⟨kq, x108_44, rfl, HA, HJ44, HO_256000, HO_256001, BK238, BK255, HB⟩ := hcut
        cases kq with
        | zero => exact absurd HA.out (by simp [bellmanlaw04_TrailBack.j1])
        | succ kj44 =>
         have H := HA.out
         clear HA
         simp only [bellmanlaw04_TrailBack.j1] at H
         by_cases c47 : x108_44 = true
         ·subst c47
          have H1 : (some true) = some r := by rw [if_pos rfl] at H; exact H
          clear H
          have H := H1
          clear H1
          obtain rfl := Option.some.inj H
          go_wp2
          go_ret
          exact ⟨by first | rfl | (simp [errW_none, errW_some] <;> rfl) | (simp [*, errW_none, errW_some] <;> rfl), by repeat (first | (with_reducible first | exact HB.out | apply below_alloc | apply pw_below_drewN | apply below_drew1 | refine below_set ?_ GE238.out | refine below_set ?_ GE255.out) | exact HB.out)⟩
         ·replace c47 := Bool.eq_false_iff.mpr c47
          subst c47
          have H1 : ((block_Read.f l0_0 l0_1 a0_2 a0_3 a4).bind fun bt268 => ((block_Read.f t245 t248 t251 t252 a4).bind fun bt270 => (if bt268.1.toList = bt270.1.toList then (some (bt268.2 == bt270.2)) else (some false)))) = some r := by rw [if_neg (show ¬ (false = true) by decide)] at H; exact H
          clear H
          have H := H1
          clear H1
          replace H := Option.bind_eq_some_iff.mp H
          obtain ⟨⟨t268, t269⟩, A480, H⟩ := H
          replace H : ((block_Read.f t245 t248 t251 t252 a4).bind fun bt270 => (if t268.toList = bt270.1.toList then (some (t269 == bt270.2)) else (some false))) = some r := H
          have A48 := Aside0.mk A480
          clear A480
          replace H := Option.bind_eq_some_iff.mp H
          obtain ⟨⟨t270, t271⟩, A490, H⟩ := H
          replace H : (if t268.toList = t270.toList then (some (t269 == t271)) else (some false)) = some r := H
          have A49 := Aside0.mk A490
          clear A490
          by_cases c50 : t268.toList = t270.toList
          ·rw [if_pos c50] at H
           have c50b0 : (t268.toList == t270.toList) = true := beq_iff_eq.mpr c50
           have c50b1 : (t268.toList != t270.toList) = false := bne_eq_false_iff_eq.mpr c50
           clear c50
           obtain rfl := Option.some.inj H
           have hnb51 := NB238_255.out
           have hnc51 := NB255_238.out
           have hcz52_0 : wc.cell? ⟨gb238, 0, none⟩ = some (.slice A0_0 l0_0.length c0_0) := (blk_cell BK238.out 0).trans rfl
           have hcz52_1 : wc.cell? ⟨gb238, 1, none⟩ = some (.slice A0_1 l0_1.length c0_1) := (blk_cell BK238.out 1).trans rfl
           have hcz52_2 : wc.cell? ⟨gb238, 2, none⟩ = some (.int .i64 a0_2) := (blk_cell BK238.out 2).trans rfl
           have hcz52_3 : wc.cell? ⟨gb238, 3, none⟩ = some (.bool a0_3) := (blk_cell BK238.out 3).trans rfl
           have hfz52_0 := blk_frozen BK238.out 0
           have hfz52_1 := blk_frozen BK238.out 1
           have hfz52_2 := blk_frozen BK238.out 2
           have hfz52_3 := blk_frozen BK238.out 3
           go_wp2_with (first | ((with_reducible refine gate_callee (f := 13) rfl ?_); refine goesL_ (some 112) rfl rfl Tryd.func13 (by kernel_rfl) rfl #[.agg #[.slice A0_0 l0_0.length c0_0, .slice A0_1 l0_1.length c0_1, .int .i64 a0_2, .bool a0_3], .int .i64 a4] rfl (by (try simp only [List.map_toArray, List.map_cons, List.map_nil]); first | done | rfl | (simp only [List.length_drop, List.length_take]; rfl)) ?_; (with_reducible refine (block_Read.calls _ _ l0_0 _ _ l0_1 a0_2 a0_3 a4 t268 t269 _ ?side1 ?side2 ?side3 ?side4 A48.out).mono ?_); (case side1 => repeat (first | exact (Kd.C_below HR0_0.out HB.out) | (with_reducible refine Kd.C_alloc ?_ _) | (with_reducible refine Kd.C_drewN ?_ _) | (with_reducible refine Kd.C_drew ?_))); (case side2 => exact HC0_0.out); (case side3 => repeat (first | exact (Kd.C_below HR0_1.out HB.out) | (with_reducible refine Kd.C_alloc ?_ _) | (with_reducible refine Kd.C_drewN ?_ _) | (with_reducible refine Kd.C_drew ?_))); (case side4 => exact HC0_1.out); rintro e w53 ⟨rfl, hb⟩; refine ⟨_, rfl, ?_⟩; have n0_ := Aside0.mk (Kd.V_below (by (with_reducible repeat (first | apply Kd.V_alloc | apply Kd.V_drewN | apply Kd.V_drew)); exact HO_256000.out) hb); have n1_ := Aside0.mk (Kd.V_below (by (with_reducible repeat (first | apply Kd.V_alloc | apply Kd.V_drewN | apply Kd.V_drew)); exact HO_256001.out) hb); have n2_ := Aside0.mk (blk_below (g := gb238) (o := .cells #[.slice A0_0 l0_0.length c0_0, .slice A0_1 l0_1.length c0_1, .int .i64 a0_2, .bool a0_3] 25 (0, 0)) (by (with_reducible repeat (first | refine blk_drewN ?_ _ | refine blk_drew ?_ | refine blk_alloc ?_ _)); exact BK238.out) hb); have n3_ := Aside0.mk (blk_below (g := gb255) (o := .cells #[.slice Ao21 t245.length co21, .slice Ao24 t248.length co24, .int .i64 t251, .bool t252] 25 (0, 0)) (by (with_reducible repeat (first | refine blk_drewN ?_ _ | refine blk_drew ?_ | refine blk_alloc ?_ _)); exact BK255.out) hb); have n4_ := Aside0.mk (below_step (by repeat (first | (with_reducible first | exact HB.out | apply below_alloc | apply pw_below_drewN | apply below_drew1 | refine below_set ?_ GE238.out | refine below_set ?_ GE255.out) | exact HB.out)) hb); clear HO_256000; clear HO_256001; clear BK238; clear BK255; clear HB; have HO_256000 := n0_; have HO_256001 := n1_; have BK238 := n2_; have BK255 := n3_; have HB := n4_; clear n0_ n1_ n2_ n3_ n4_; (try clear hb); (try clear hb2); (try clear hk); (try clear hi); have hcz54_0 : w53.cell? ⟨gb255, 0, none⟩ = some (.slice Ao21 t245.length co21) := (blk_cell BK255.out 0).trans rfl; have hcz54_1 : w53.cell? ⟨gb255, 1, none⟩ = some (.slice Ao24 t248.length co24) := (blk_cell BK255.out 1).trans rfl; have hcz54_2 : w53.cell? ⟨gb255, 2, none⟩ = some (.int .i64 t251) := (blk_cell BK255.out 2).trans rfl; have hcz54_3 : w53.cell? ⟨gb255, 3, none⟩ = some (.bool t252) := (blk_cell BK255.out 3).trans rfl; have hfz54_0 := blk_frozen BK255.out 0; have hfz54_1 := blk_frozen BK255.out 1; have hfz54_2 := blk_frozen BK255.out 2; have hfz54_3 := blk_frozen BK255.out 3) | ((with_reducible refine gate_callee (f := 13) rfl ?_); refine goesL_ (some 118) rfl rfl Tryd.func13 (by kernel_rfl) rfl #[.agg #[.slice Ao21 t245.length co21, .slice Ao24 t248.length co24, .int .i64 t251, .bool t252], .int .i64 a4] rfl (by (try simp only [List.map_toArray, List.map_cons, List.map_nil]); first | done | rfl | (simp only [List.length_drop, List.length_take]; rfl)) ?_; (with_reducible refine (block_Read.calls _ _ t245 _ _ t248 t251 t252 a4 t270 t271 _ ?side1 ?side2 ?side3 ?side4 A49.out).mono ?_); (case side1 => repeat (first | exact (Kd.V_reads' HO_256000.out).2.2 | (with_reducible refine Kd.C_alloc ?_ _) | (with_reducible refine Kd.C_drewN ?_ _) | (with_reducible refine Kd.C_drew ?_))); (case side2 => exact (Kd.V_reads' HO_256000.out).2.1); (case side3 => repeat (first | exact (Kd.V_reads' HO_256001.out).2.2 | (with_reducible refine Kd.C_alloc ?_ _) | (with_reducible refine Kd.C_drewN ?_ _) | (with_reducible refine Kd.C_drew ?_))); (case side4 => exact (Kd.V_reads' HO_256001.out).2.1); rintro e w55 ⟨rfl, hb⟩; refine ⟨_, rfl, ?_⟩; have n0_ := Aside0.mk (Kd.V_below (by (with_reducible repeat (first | apply Kd.V_alloc | apply Kd.V_drewN | apply Kd.V_drew)); exact HO_256000.out) hb); have n1_ := Aside0.mk (Kd.V_below (by (with_reducible repeat (first | apply Kd.V_alloc | apply Kd.V_drewN | apply Kd.V_drew)); exact HO_256001.out) hb); have n2_ := Aside0.mk (blk_below (g := gb238) (o := .cells #[.slice A0_0 l0_0.length c0_0, .slice A0_1 l0_1.length c0_1, .int .i64 a0_2, .bool a0_3] 25 (0, 0)) (by (with_reducible repeat (first | refine blk_drewN ?_ _ | refine blk_drew ?_ | refine blk_alloc ?_ _)); exact BK238.out) hb); have n3_ := Aside0.mk (blk_below (g := gb255) (o := .cells #[.slice Ao21 t245.length co21, .slice Ao24 t248.length co24, .int .i64 t251, .bool t252] 25 (0, 0)) (by (with_reducible repeat (first | refine blk_drewN ?_ _ | refine blk_drew ?_ | refine blk_alloc ?_ _)); exact BK255.out) hb); have n4_ := Aside0.mk (below_step (by repeat (first | (with_reducible first | exact HB.out | apply below_alloc | apply pw_below_drewN | apply below_drew1 | refine below_set ?_ GE238.out | refine below_set ?_ GE255.out) | exact HB.out)) hb); clear HO_256000; clear HO_256001; clear BK238; clear BK255; clear HB; have HO_256000 := n0_; have HO_256001 := n1_; have BK238 := n2_; have BK255 := n3_; have HB := n4_; clear n0_ n1_ n2_ n3_ n4_; (try clear hb); (try clear hb2); (try clear hk); (try clear hi)))
           go_ret
           exact ⟨by first | rfl | (simp [errW_none, errW_some] <;> rfl) | (simp [*, errW_none, errW_some] <;> rfl), by repeat (first | (with_reducible first | exact HB.out | apply below_alloc | apply pw_below_drewN | apply below_drew1 | refine below_set ?_ GE238.out | refine below_set ?_ GE255.out) | exact HB.out)⟩
          ·rw [if_neg c50] at H
           have c50b0 : (t268.toList == t270.toList) = false := beq_eq_false_iff_ne.mpr c50
           have c50b1 : (t268.toList != t270.toList) = true := bne_iff_ne.mpr c50
           obtain rfl := Option.some.inj H
           have hnb56 := NB238_255.out
           have hnc56 := NB255_238.out
           have hcz57_0 : wc.cell? ⟨gb238, 0, none⟩ = some (.slice A0_0 l0_0.length c0_0) := (blk_cell BK238.out 0).trans rfl
           have hcz57_1 : wc.cell? ⟨gb238, 1, none⟩ = some (.slice A0_1 l0_1.length c0_1) := (blk_cell BK238.out 1).trans rfl
           have hcz57_2 : wc.cell? ⟨gb238, 2, none⟩ = some (.int .i64 a0_2) := (blk_cell BK238.out 2).trans rfl
           have hcz57_3 : wc.cell? ⟨gb238, 3, none⟩ = some (.bool a0_3) := (blk_cell BK238.out 3).trans rfl
           have hfz57_0 := blk_frozen BK238.out 0
           have hfz57_1 := blk_frozen BK238.out 1
           have hfz57_2 := blk_frozen BK238.out 2
           have hfz57_3 := blk_frozen BK238.out 3
           go_wp2_with (first | ((with_reducible refine gate_callee (f := 13) rfl ?_); refine goesL_ (some 112) rfl rfl Tryd.func13 (by kernel_rfl) rfl #[.agg #[.slice A0_0 l0_0.length c0_0, .slice A0_1 l0_1.length c0_1, .int .i64 a0_2, .bool a0_3], .int .i64 a4] rfl (by (try simp only [List.map_toArray, List.map_cons, List.map_nil]); first | done | rfl | (simp only [List.length_drop, List.length_take]; rfl)) ?_; (with_reducible refine (block_Read.calls _ _ l0_0 _ _ l0_1 a0_2 a0_3 a4 t268 t269 _ ?side1 ?side2 ?side3 ?side4 A48.out).mono ?_); (case side1 => repeat (first | exact (Kd.C_below HR0_0.out HB.out) | (with_reducible refine Kd.C_alloc ?_ _) | (with_reducible refine Kd.C_drewN ?_ _) | (with_reducible refine Kd.C_drew ?_))); (case side2 => exact HC0_0.out); (case side3 => repeat (first | exact (Kd.C_below HR0_1.out HB.out) | (with_reducible refine Kd.C_alloc ?_ _) | (with_reducible refine Kd.C_drewN ?_ _) | (with_reducible refine Kd.C_drew ?_))); (case side4 => exact HC0_1.out); rintro e w58 ⟨rfl, hb⟩; refine ⟨_, rfl, ?_⟩; have n0_ := Aside0.mk (Kd.V_below (by (with_reducible repeat (first | apply Kd.V_alloc | apply Kd.V_drewN | apply Kd.V_drew)); exact HO_256000.out) hb); have n1_ := Aside0.mk (Kd.V_below (by (with_reducible repeat (first | apply Kd.V_alloc | apply Kd.V_drewN | apply Kd.V_drew)); exact HO_256001.out) hb); have n2_ := Aside0.mk (blk_below (g := gb238) (o := .cells #[.slice A0_0 l0_0.length c0_0, .slice A0_1 l0_1.length c0_1, .int .i64 a0_2, .bool a0_3] 25 (0, 0)) (by (with_reducible repeat (first | refine blk_drewN ?_ _ | refine blk_drew ?_ | refine blk_alloc ?_ _)); exact BK238.out) hb); have n3_ := Aside0.mk (blk_below (g := gb255) (o := .cells #[.slice Ao21 t245.length co21, .slice Ao24 t248.length co24, .int .i64 t251, .bool t252] 25 (0, 0)) (by (with_reducible repeat (first | refine blk_drewN ?_ _ | refine blk_drew ?_ | refine blk_alloc ?_ _)); exact BK255.out) hb); have n4_ := Aside0.mk (below_step (by repeat (first | (with_reducible first | exact HB.out | apply below_alloc | apply pw_below_drewN | apply below_drew1 | refine below_set ?_ GE238.out | refine below_set ?_ GE255.out) | exact HB.out)) hb); clear HO_256000; clear HO_256001; clear BK238; clear BK255; clear HB; have HO_256000 := n0_; have HO_256001 := n1_; have BK238 := n2_; have BK255 := n3_; have HB := n4_; clear n0_ n1_ n2_ n3_ n4_; (try clear hb); (try clear hb2); (try clear hk); (try clear hi); have hcz59_0 : w58.cell? ⟨gb255, 0, none⟩ = some (.slice Ao21 t245.length co21) := (blk_cell BK255.out 0).trans rfl; have hcz59_1 : w58.cell? ⟨gb255, 1, none⟩ = some (.slice Ao24 t248.length co24) := (blk_cell BK255.out 1).trans rfl; have hcz59_2 : w58.cell? ⟨gb255, 2, none⟩ = some (.int .i64 t251) := (blk_cell BK255.out 2).trans rfl; have hcz59_3 : w58.cell? ⟨gb255, 3, none⟩ = some (.bool t252) := (blk_cell BK255.out 3).trans rfl; have hfz59_0 := blk_frozen BK255.out 0; have hfz59_1 := blk_frozen BK255.out 1; have hfz59_2 := blk_frozen BK255.out 2; have hfz59_3 := blk_frozen BK255.out 3) | ((with_reducible refine gate_callee (f := 13) rfl ?_); refine goesL_ (some 118) rfl rfl Tryd.func13 (by kernel_rfl) rfl #[.agg #[.slice Ao21 t245.length co21, .slice Ao24 t248.length co24, .int .i64 t251, .bool t252], .int .i64 a4] rfl (by (try simp only [List.map_toArray, List.map_cons, List.map_nil]); first | done | rfl | (simp only [List.length_drop, List.length_take]; rfl)) ?_; (with_reducible refine (block_Read.calls _ _ t245 _ _ t248 t251 t252 a4 t270 t271 _ ?side1 ?side2 ?side3 ?side4 A49.out).mono ?_); (case side1 => repeat (first | exact (Kd.V_reads' HO_256000.out).2.2 | (with_reducible refine Kd.C_alloc ?_ _) | (with_reducible refine Kd.C_drewN ?_ _) | (with_reducible refine Kd.C_drew ?_))); (case side2 => exact (Kd.V_reads' HO_256000.out).2.1); (case side3 => repeat (first | exact (Kd.V_reads' HO_256001.out).2.2 | (with_reducible refine Kd.C_alloc ?_ _) | (with_reducible refine Kd.C_drewN ?_ _) | (with_reducible refine Kd.C_drew ?_))); (case side4 => exact (Kd.V_reads' HO_256001.out).2.1); rintro e w60 ⟨rfl, hb⟩; refine ⟨_, rfl, ?_⟩; have n0_ := Aside0.mk (Kd.V_below (by (with_reducible repeat (first | apply Kd.V_alloc | apply Kd.V_drewN | apply Kd.V_drew)); exact HO_256000.out) hb); have n1_ := Aside0.mk (Kd.V_below (by (with_reducible repeat (first | apply Kd.V_alloc | apply Kd.V_drewN | apply Kd.V_drew)); exact HO_256001.out) hb); have n2_ := Aside0.mk (blk_below (g := gb238) (o := .cells #[.slice A0_0 l0_0.length c0_0, .slice A0_1 l0_1.length c0_1, .int .i64 a0_2, .bool a0_3] 25 (0, 0)) (by (with_reducible repeat (first | refine blk_drewN ?_ _ | refine blk_drew ?_ | refine blk_alloc ?_ _)); exact BK238.out) hb); have n3_ := Aside0.mk (blk_below (g := gb255) (o := .cells #[.slice Ao21 t245.length co21, .slice Ao24 t248.length co24, .int .i64 t251, .bool t252] 25 (0, 0)) (by (with_reducible repeat (first | refine blk_drewN ?_ _ | refine blk_drew ?_ | refine blk_alloc ?_ _)); exact BK255.out) hb); have n4_ := Aside0.mk (below_step (by repeat (first | (with_reducible first | exact HB.out | apply below_alloc | apply pw_below_drewN | apply below_drew1 | refine below_set ?_ GE238.out | refine below_set ?_ GE255.out) | exact HB.out)) hb); clear HO_256000; clear HO_256001; clear BK238; clear BK255; clear HB; have HO_256000 := n0_; have HO_256001 := n1_; have BK238 := n2_; have BK255 := n3_; have HB := n4_; clear n0_ n1_ n2_ n3_ n4_; (try clear hb); (try clear hb2); (try clear hk); (try clear hi)))
           go_ret
           exact ⟨by first | rfl | (simp [errW_none, errW_some] <;> rfl) | (simp [*, errW_none, errW_some] <;> rfl), by repeat (first | (with_reducible first | exact HB.out | apply below_alloc | apply pw_below_drewN | apply below_drew1 | refine below_set ?_ GE238.out | refine below_set ?_ GE255.out) | exact HB.out)⟩
   ·rw [if_neg c11] at H
    have c11b0 : (t254 == 0) = false := beq_eq_false_iff_ne.mpr c11
    have c11b1 : (t254 != 0) = true := bne_iff_ne.mpr c11
    obtain rfl := Option.some.inj H
    go_enter Tryd.func4, Tryd.ntmps4
    go_wp2_with (first | ((with_reducible refine gate_dst (N := 5) rfl ?_); (try (refine gate_guard (by rfl) ?_; dsimp only)); refine box_event ?hg (N := 5) ?hd (cs := #[.slice A0_0 l0_0.length c0_0, .slice A0_1 l0_1.length c0_1, .int .i64 a0_2, .bool a0_3]) (t := 25) ?hr ?_; (case hd => rfl); (case hg => rfl); (case hr => first | (go_simp; done) | (go_simp; rfl)); intro gb238 hg w61 hbox hb; have n0_ := Aside0.mk (below_step (by repeat (first | (with_reducible first | exact HB.out | apply below_alloc | apply pw_below_drewN | apply below_drew1) | exact HB.out)) hb); have n1_ := Aside0.mk (hbox); have n2_ := Aside0.mk ((by rw [hg]; exact (below_size (by repeat (first | (with_reducible first | exact HB.out | apply below_alloc | apply pw_below_drewN | apply below_drew1) | exact HB.out))) : w.heap.size ≤ gb238)); have n3_ := Aside0.mk ((by rw [hg]; exact (below_size (by repeat (first | (with_reducible first | exact HB.out | apply below_alloc | apply pw_below_drewN | apply below_drew1) | exact HB.out))) : w.heap.size ≤ gb238)); clear HB; have HB := n0_; have BK238 := n1_; have GW238 := n2_; have GE238 := n3_; clear n0_ n1_ n2_ n3_; clear hb hbox hg) | ((with_reducible refine gate_callee (f := 7) rfl ?_); refine goesL_ (some 24) rfl rfl Tryd.func7 (by kernel_rfl) rfl #[] rfl (by (try simp only [List.map_toArray, List.map_cons, List.map_nil]); first | done | rfl | (simp only [List.length_drop, List.length_take]; rfl)) ?_; (with_reducible refine (bellmanlaw04_lives.calls  true _ A6.out).mono ?_); rintro e w62 ⟨rfl, hb⟩; refine ⟨_, rfl, ?_⟩; have n0_ := Aside0.mk (blk_below (g := gb238) (o := .cells #[.slice A0_0 l0_0.length c0_0, .slice A0_1 l0_1.length c0_1, .int .i64 a0_2, .bool a0_3] 25 (0, 0)) (by (with_reducible repeat (first | refine blk_drewN ?_ _ | refine blk_drew ?_ | refine blk_alloc ?_ _)); exact BK238.out) hb); have n1_ := Aside0.mk (below_step (by repeat (first | (with_reducible first | exact HB.out | apply below_alloc | apply pw_below_drewN | apply below_drew1 | refine below_set ?_ GE238.out) | exact HB.out)) hb); clear BK238; clear HB; have BK238 := n0_; have HB := n1_; clear n0_ n1_; (try clear hb); (try clear hb2); (try clear hk); (try clear hi); have hcz63_0 : w62.cell? ⟨gb238, 0, none⟩ = some (.slice A0_0 l0_0.length c0_0) := (blk_cell BK238.out 0).trans rfl; have hcz63_1 : w62.cell? ⟨gb238, 1, none⟩ = some (.slice A0_1 l0_1.length c0_1) := (blk_cell BK238.out 1).trans rfl; have hcz63_2 : w62.cell? ⟨gb238, 2, none⟩ = some (.int .i64 a0_2) := (blk_cell BK238.out 2).trans rfl; have hcz63_3 : w62.cell? ⟨gb238, 3, none⟩ = some (.bool a0_3) := (blk_cell BK238.out 3).trans rfl; have hfz63_0 := blk_frozen BK238.out 0; have hfz63_1 := blk_frozen BK238.out 1; have hfz63_2 := blk_frozen BK238.out 2; have hfz63_3 := blk_frozen BK238.out 3) | ((with_reducible refine gate_callee (f := 9) rfl ?_); refine goesL_ (some 30) rfl rfl Tryd.func9 (by kernel_rfl) rfl #[.agg #[.slice A0_0 l0_0.length c0_0, .slice A0_1 l0_1.length c0_1, .int .i64 a0_2, .bool a0_3], .int .i64 a1, .int .i64 a2] rfl (by (try simp only [List.map_toArray, List.map_cons, List.map_nil]); first | done | rfl | (simp only [List.length_drop, List.length_take]; rfl)) ?_; (with_reducible refine (trail_Read.calls _ _ l0_0 _ _ l0_1 a0_2 a0_3 a1 a2 t240 t243 t244 _ ?side1 ?side2 ?side3 ?side4 A8.out).mono ?_); (case side1 => repeat (first | exact (Kd.C_below HR0_0.out HB.out) | (with_reducible refine Kd.C_alloc ?_ _) | (with_reducible refine Kd.C_drewN ?_ _) | (with_reducible refine Kd.C_drew ?_))); (case side2 => exact HC0_0.out); (case side3 => repeat (first | exact (Kd.C_below HR0_1.out HB.out) | (with_reducible refine Kd.C_alloc ?_ _) | (with_reducible refine Kd.C_drewN ?_ _) | (with_reducible refine Kd.C_drew ?_))); (case side4 => exact HC0_1.out); rintro e w64 ⟨v241, rfl, ho0, hb⟩; refine ⟨_, rfl, ?_⟩; have n0_ := Aside0.mk (Kd.V_lower (Kd.V_mono (ok' := fun k_ => k_ ≠ gb238) ho0 (fun k_ hk_ => (Kd.freshB (g := gb238) (o := .cells #[.slice A0_0 l0_0.length c0_0, .slice A0_1 l0_1.length c0_1, .int .i64 a0_2, .bool a0_3] 25 (0, 0)) (by (with_reducible repeat (first | refine blk_drewN ?_ _ | refine blk_drew ?_ | refine blk_alloc ?_ _)); exact BK238.out) k_ hk_))) (below_size (by repeat (first | (with_reducible first | exact HB.out | apply below_alloc | apply pw_below_drewN | apply below_drew1 | refine below_set ?_ GE238.out) | exact HB.out)))); have n1_ := Aside0.mk (blk_below (g := gb238) (o := .cells #[.slice A0_0 l0_0.length c0_0, .slice A0_1 l0_1.length c0_1, .int .i64 a0_2, .bool a0_3] 25 (0, 0)) (by (with_reducible repeat (first | refine blk_drewN ?_ _ | refine blk_drew ?_ | refine blk_alloc ?_ _)); exact BK238.out) hb); have n2_ := Aside0.mk (below_step (by repeat (first | (with_reducible first | exact HB.out | apply below_alloc | apply pw_below_drewN | apply below_drew1 | refine below_set ?_ GE238.out) | exact HB.out)) hb); clear BK238; clear HB; have HO242 := n0_; have BK238 := n1_; have HB := n2_; clear n0_ n1_ n2_; (try clear hb); (try clear hb2); (try clear hk); (try clear hi); (try clear ho0); have hcz65_0 : w64.cell? ⟨gb238, 0, none⟩ = some (.slice A0_0 l0_0.length c0_0) := (blk_cell BK238.out 0).trans rfl; have hcz65_1 : w64.cell? ⟨gb238, 1, none⟩ = some (.slice A0_1 l0_1.length c0_1) := (blk_cell BK238.out 1).trans rfl; have hcz65_2 : w64.cell? ⟨gb238, 2, none⟩ = some (.int .i64 a0_2) := (blk_cell BK238.out 2).trans rfl; have hcz65_3 : w64.cell? ⟨gb238, 3, none⟩ = some (.bool a0_3) := (blk_cell BK238.out 3).trans rfl; have hfz65_0 := blk_frozen BK238.out 0; have hfz65_1 := blk_frozen BK238.out 1; have hfz65_2 := blk_frozen BK238.out 2; have hfz65_3 := blk_frozen BK238.out 3) | ((with_reducible refine gate_callee (f := 11) rfl ?_); refine goesL_ (some 49) rfl rfl Tryd.func11 (by kernel_rfl) rfl #[.agg #[.slice A0_0 l0_0.length c0_0, .slice A0_1 l0_1.length c0_1, .int .i64 a0_2, .bool a0_3], .int .i64 a1, .int .i64 a2, .int .i64 t243, .string a3] rfl (by (try simp only [List.map_toArray, List.map_cons, List.map_nil]); first | done | rfl | (simp only [List.length_drop, List.length_take]; rfl)) ?_; (with_reducible refine (trail_Append.calls _ _ l0_0 _ _ l0_1 a0_2 a0_3 a1 a2 t243 a3 t245 t248 t251 t252 t253 t254 _ ?side1 ?side2 ?side3 ?side4 A10.out).mono ?_); (case side1 => repeat (first | exact (Kd.C_below HR0_0.out HB.out) | (with_reducible refine Kd.C_alloc ?_ _) | (with_reducible refine Kd.C_drewN ?_ _) | (with_reducible refine Kd.C_drew ?_))); (case side2 => exact HC0_0.out); (case side3 => repeat (first | exact (Kd.C_below HR0_1.out HB.out) | (with_reducible refine Kd.C_alloc ?_ _) | (with_reducible refine Kd.C_drewN ?_ _) | (with_reducible refine Kd.C_drew ?_))); (case side4 => exact HC0_1.out); rintro e w66 ⟨v246, v249, rfl, ho0, ho1, hb⟩; refine ⟨_, rfl, ?_⟩; have n0_ := Aside0.mk (Kd.V_below (by (with_reducible repeat (first | apply Kd.V_alloc | apply Kd.V_drewN | apply Kd.V_drew)); exact HO242.out) hb); have n1_ := Aside0.mk (Kd.V_lower (Kd.V_mono (ok' := fun k_ => k_ ≠ gb238) ho0 (fun k_ hk_ => (Kd.freshB (g := gb238) (o := .cells #[.slice A0_0 l0_0.length c0_0, .slice A0_1 l0_1.length c0_1, .int .i64 a0_2, .bool a0_3] 25 (0, 0)) (by (with_reducible repeat (first | refine blk_drewN ?_ _ | refine blk_drew ?_ | refine blk_alloc ?_ _)); exact BK238.out) k_ hk_))) (below_size (by repeat (first | (with_reducible first | exact HB.out | apply below_alloc | apply pw_below_drewN | apply below_drew1 | refine below_set ?_ GE238.out) | exact HB.out)))); have n2_ := Aside0.mk (Kd.V_lower (Kd.V_mono (ok' := fun k_ => k_ ≠ gb238) ho1 (fun k_ hk_ => (Kd.freshB (g := gb238) (o := .cells #[.slice A0_0 l0_0.length c0_0, .slice A0_1 l0_1.length c0_1, .int .i64 a0_2, .bool a0_3] 25 (0, 0)) (by (with_reducible repeat (first | refine blk_drewN ?_ _ | refine blk_drew ?_ | refine blk_alloc ?_ _)); exact BK238.out) k_ hk_))) (below_size (by repeat (first | (with_reducible first | exact HB.out | apply below_alloc | apply pw_below_drewN | apply below_drew1 | refine below_set ?_ GE238.out) | exact HB.out)))); have n3_ := Aside0.mk (blk_below (g := gb238) (o := .cells #[.slice A0_0 l0_0.length c0_0, .slice A0_1 l0_1.length c0_1, .int .i64 a0_2, .bool a0_3] 25 (0, 0)) (by (with_reducible repeat (first | refine blk_drewN ?_ _ | refine blk_drew ?_ | refine blk_alloc ?_ _)); exact BK238.out) hb); have n4_ := Aside0.mk (below_step (by repeat (first | (with_reducible first | exact HB.out | apply below_alloc | apply pw_below_drewN | apply below_drew1 | refine below_set ?_ GE238.out) | exact HB.out)) hb); clear HO242; clear BK238; clear HB; have HO242 := n0_; have HO247 := n1_; have HO250 := n2_; have BK238 := n3_; have HB := n4_; clear n0_ n1_ n2_ n3_ n4_; (try clear hb); (try clear hb2); (try clear hk); (try clear hi); (try clear ho0); (try clear ho1)) | ((with_reducible refine gate_dst (N := 14) rfl ?_); (try (refine gate_guard (by rfl) ?_; dsimp only)); refine box_event ?hg (N := 14) ?hd (cs := #[.slice none 0 0, .slice none 0 0, .int .i64 0, .bool false]) (t := 25) ?hr ?_; (case hd => rfl); (case hg => rfl); (case hr => first | (go_simp; done) | (go_simp; rfl)); intro gb255 hg w67 hbox hb; have n0_ := Aside0.mk (Kd.V_below (Kd.V_elderB (by (with_reducible repeat (first | apply Kd.V_alloc | apply Kd.V_drewN | apply Kd.V_drew)); exact HO242.out) gb255 (Nat.le_of_eq hg.symm)) hb); have n1_ := Aside0.mk (Kd.V_below (Kd.V_elderB (by (with_reducible repeat (first | apply Kd.V_alloc | apply Kd.V_drewN | apply Kd.V_drew)); exact HO247.out) gb255 (Nat.le_of_eq hg.symm)) hb); have n2_ := Aside0.mk (Kd.V_below (Kd.V_elderB (by (with_reducible repeat (first | apply Kd.V_alloc | apply Kd.V_drewN | apply Kd.V_drew)); exact HO250.out) gb255 (Nat.le_of_eq hg.symm)) hb); have n3_ := Aside0.mk (blk_below (g := gb238) (o := .cells #[.slice A0_0 l0_0.length c0_0, .slice A0_1 l0_1.length c0_1, .int .i64 a0_2, .bool a0_3] 25 (0, 0)) (by (with_reducible repeat (first | refine blk_drewN ?_ _ | refine blk_drew ?_ | refine blk_alloc ?_ _)); exact BK238.out) hb); have n4_ := Aside0.mk (below_step (by repeat (first | (with_reducible first | exact HB.out | apply below_alloc | apply pw_below_drewN | apply below_drew1 | refine below_set ?_ GE238.out) | exact HB.out)) hb); have n5_ := Aside0.mk (hbox); have n6_ := Aside0.mk ((by rw [hg]; exact (below_size (by repeat (first | (with_reducible first | exact HB.out | apply below_alloc | apply pw_below_drewN | apply below_drew1 | refine below_set ?_ GE238.out) | exact HB.out))) : w.heap.size ≤ gb255)); have n7_ := Aside0.mk ((by rw [hg]; exact (below_size (by repeat (first | (with_reducible first | exact HB.out | apply below_alloc | apply pw_below_drewN | apply below_drew1 | refine below_set ?_ GE238.out) | exact HB.out))) : w.heap.size ≤ gb255)); have n8_ := Aside0.mk ((by rw [hg]; exact Nat.ne_of_lt (blk_lt (g := gb238) (o := .cells #[.slice A0_0 l0_0.length c0_0, .slice A0_1 l0_1.length c0_1, .int .i64 a0_2, .bool a0_3] 25 (0, 0)) (by (with_reducible repeat (first | refine blk_drewN ?_ _ | refine blk_drew ?_ | refine blk_alloc ?_ _)); exact BK238.out)) : gb238 ≠ gb255)); have n9_ := Aside0.mk ((by rw [hg]; exact Nat.ne_of_gt (blk_lt (g := gb238) (o := .cells #[.slice A0_0 l0_0.length c0_0, .slice A0_1 l0_1.length c0_1, .int .i64 a0_2, .bool a0_3] 25 (0, 0)) (by (with_reducible repeat (first | refine blk_drewN ?_ _ | refine blk_drew ?_ | refine blk_alloc ?_ _)); exact BK238.out)) : gb255 ≠ gb238)); clear HO242; clear HO247; clear HO250; clear BK238; clear HB; have HO242 := n0_; have HO247 := n1_; have HO250 := n2_; have BK238 := n3_; have HB := n4_; have BK255 := n5_; have GW255 := n6_; have GE255 := n7_; have NB238_255 := n8_; have NB255_238 := n9_; clear n0_ n1_ n2_ n3_ n4_ n5_ n6_ n7_ n8_ n9_; clear hb hbox hg; obtain ⟨Ao68, co68, eo68⟩ := Kd.V_slice HO247.out; subst eo68; have hnb69 := NB255_238.out; have hnc69 := NB238_255.out; have hcz70_0 : w67.cell? ⟨gb255, 0, none⟩ = some (.slice none 0 0) := (blk_cell BK255.out 0).trans rfl; have hcz70_1 : w67.cell? ⟨gb255, 1, none⟩ = some (.slice none 0 0) := (blk_cell BK255.out 1).trans rfl; have hcz70_2 : w67.cell? ⟨gb255, 2, none⟩ = some (.int .i64 0) := (blk_cell BK255.out 2).trans rfl; have hcz70_3 : w67.cell? ⟨gb255, 3, none⟩ = some (.bool false) := (blk_cell BK255.out 3).trans rfl; have hfz70_0 := blk_frozen BK255.out 0; have hfz70_1 := blk_frozen BK255.out 1; have hfz70_2 := blk_frozen BK255.out 2; have hfz70_3 := blk_frozen BK255.out 3; obtain ⟨Ao71, co71, eo71⟩ := Kd.V_slice HO250.out; subst eo71))
    go_ret
    exact ⟨by first | rfl | (simp [errW_none, errW_some] <;> rfl) | (simp [*, errW_none, errW_some] <;> rfl), by repeat (first | (with_reducible first | exact HB.out | apply below_alloc | apply pw_below_drewN | apply below_drew1 | refine below_set ?_ GE238.out | refine below_set ?_ GE255.out) | exact HB.out)⟩
  ·rw [if_neg c9] at H
   have c9b0 : (t244 == 0) = false := beq_eq_false_iff_ne.mpr c9
   have c9b1 : (t244 != 0) = true := bne_iff_ne.mpr c9
   by_cases c72 : (t240.length : Int) = 0
   ·rw [if_pos c72] at H
    have c72b0 : ((t240.length : Int) == 0) = true := beq_iff_eq.mpr c72
    have c72b1 : ((t240.length : Int) != 0) = false := bne_eq_false_iff_eq.mpr c72
    clear c72
    obtain rfl := Option.some.inj H
    go_enter Tryd.func4, Tryd.ntmps4
    go_wp2_with (first | ((with_reducible refine gate_dst (N := 5) rfl ?_); (try (refine gate_guard (by rfl) ?_; dsimp only)); refine box_event ?hg (N := 5) ?hd (cs := #[.slice A0_0 l0_0.length c0_0, .slice A0_1 l0_1.length c0_1, .int .i64 a0_2, .bool a0_3]) (t := 25) ?hr ?_; (case hd => rfl); (case hg => rfl); (case hr => first | (go_simp; done) | (go_simp; rfl)); intro gb238 hg w73 hbox hb; have n0_ := Aside0.mk (below_step (by repeat (first | (with_reducible first | exact HB.out | apply below_alloc | apply pw_below_drewN | apply below_drew1) | exact HB.out)) hb); have n1_ := Aside0.mk (hbox); have n2_ := Aside0.mk ((by rw [hg]; exact (below_size (by repeat (first | (with_reducible first | exact HB.out | apply below_alloc | apply pw_below_drewN | apply below_drew1) | exact HB.out))) : w.heap.size ≤ gb238)); have n3_ := Aside0.mk ((by rw [hg]; exact (below_size (by repeat (first | (with_reducible first | exact HB.out | apply below_alloc | apply pw_below_drewN | apply below_drew1) | exact HB.out))) : w.heap.size ≤ gb238)); clear HB; have HB := n0_; have BK238 := n1_; have GW238 := n2_; have GE238 := n3_; clear n0_ n1_ n2_ n3_; clear hb hbox hg) | ((with_reducible refine gate_callee (f := 7) rfl ?_); refine goesL_ (some 24) rfl rfl Tryd.func7 (by kernel_rfl) rfl #[] rfl (by (try simp only [List.map_toArray, List.map_cons, List.map_nil]); first | done | rfl | (simp only [List.length_drop, List.length_take]; rfl)) ?_; (with_reducible refine (bellmanlaw04_lives.calls  true _ A6.out).mono ?_); rintro e w74 ⟨rfl, hb⟩; refine ⟨_, rfl, ?_⟩; have n0_ := Aside0.mk (blk_below (g := gb238) (o := .cells #[.slice A0_0 l0_0.length c0_0, .slice A0_1 l0_1.length c0_1, .int .i64 a0_2, .bool a0_3] 25 (0, 0)) (by (with_reducible repeat (first | refine blk_drewN ?_ _ | refine blk_drew ?_ | refine blk_alloc ?_ _)); exact BK238.out) hb); have n1_ := Aside0.mk (below_step (by repeat (first | (with_reducible first | exact HB.out | apply below_alloc | apply pw_below_drewN | apply below_drew1 | refine below_set ?_ GE238.out) | exact HB.out)) hb); clear BK238; clear HB; have BK238 := n0_; have HB := n1_; clear n0_ n1_; (try clear hb); (try clear hb2); (try clear hk); (try clear hi); have hcz75_0 : w74.cell? ⟨gb238, 0, none⟩ = some (.slice A0_0 l0_0.length c0_0) := (blk_cell BK238.out 0).trans rfl; have hcz75_1 : w74.cell? ⟨gb238, 1, none⟩ = some (.slice A0_1 l0_1.length c0_1) := (blk_cell BK238.out 1).trans rfl; have hcz75_2 : w74.cell? ⟨gb238, 2, none⟩ = some (.int .i64 a0_2) := (blk_cell BK238.out 2).trans rfl; have hcz75_3 : w74.cell? ⟨gb238, 3, none⟩ = some (.bool a0_3) := (blk_cell BK238.out 3).trans rfl; have hfz75_0 := blk_frozen BK238.out 0; have hfz75_1 := blk_frozen BK238.out 1; have hfz75_2 := blk_frozen BK238.out 2; have hfz75_3 := blk_frozen BK238.out 3) | ((with_reducible refine gate_callee (f := 9) rfl ?_); refine goesL_ (some 30) rfl rfl Tryd.func9 (by kernel_rfl) rfl #[.agg #[.slice A0_0 l0_0.length c0_0, .slice A0_1 l0_1.length c0_1, .int .i64 a0_2, .bool a0_3], .int .i64 a1, .int .i64 a2] rfl (by (try simp only [List.map_toArray, List.map_cons, List.map_nil]); first | done | rfl | (simp only [List.length_drop, List.length_take]; rfl)) ?_; (with_reducible refine (trail_Read.calls _ _ l0_0 _ _ l0_1 a0_2 a0_3 a1 a2 t240 t243 t244 _ ?side1 ?side2 ?side3 ?side4 A8.out).mono ?_); (case side1 => repeat (first | exact (Kd.C_below HR0_0.out HB.out) | (with_reducible refine Kd.C_alloc ?_ _) | (with_reducible refine Kd.C_drewN ?_ _) | (with_reducible refine Kd.C_drew ?_))); (case side2 => exact HC0_0.out); (case side3 => repeat (first | exact (Kd.C_below HR0_1.out HB.out) | (with_reducible refine Kd.C_alloc ?_ _) | (with_reducible refine Kd.C_drewN ?_ _) | (with_reducible refine Kd.C_drew ?_))); (case side4 => exact HC0_1.out); rintro e w76 ⟨v241, rfl, ho0, hb⟩; refine ⟨_, rfl, ?_⟩; have n0_ := Aside0.mk (Kd.V_lower (Kd.V_mono (ok' := fun k_ => k_ ≠ gb238) ho0 (fun k_ hk_ => (Kd.freshB (g := gb238) (o := .cells #[.slice A0_0 l0_0.length c0_0, .slice A0_1 l0_1.length c0_1, .int .i64 a0_2, .bool a0_3] 25 (0, 0)) (by (with_reducible repeat (first | refine blk_drewN ?_ _ | refine blk_drew ?_ | refine blk_alloc ?_ _)); exact BK238.out) k_ hk_))) (below_size (by repeat (first | (with_reducible first | exact HB.out | apply below_alloc | apply pw_below_drewN | apply below_drew1 | refine below_set ?_ GE238.out) | exact HB.out)))); have n1_ := Aside0.mk (blk_below (g := gb238) (o := .cells #[.slice A0_0 l0_0.length c0_0, .slice A0_1 l0_1.length c0_1, .int .i64 a0_2, .bool a0_3] 25 (0, 0)) (by (with_reducible repeat (first | refine blk_drewN ?_ _ | refine blk_drew ?_ | refine blk_alloc ?_ _)); exact BK238.out) hb); have n2_ := Aside0.mk (below_step (by repeat (first | (with_reducible first | exact HB.out | apply below_alloc | apply pw_below_drewN | apply below_drew1 | refine below_set ?_ GE238.out) | exact HB.out)) hb); clear BK238; clear HB; have HO242 := n0_; have BK238 := n1_; have HB := n2_; clear n0_ n1_ n2_; (try clear hb); (try clear hb2); (try clear hk); (try clear hi); (try clear ho0); obtain ⟨Ao77, co77, eo77⟩ := Kd.V_slice HO242.out; subst eo77))
    go_ret
    exact ⟨by first | rfl | (simp [errW_none, errW_some] <;> rfl) | (simp [*, errW_none, errW_some] <;> rfl), by repeat (first | (with_reducible first | exact HB.out | apply below_alloc | apply pw_below_drewN | apply below_drew1 | refine below_set ?_ GE238.out) | exact HB.out)⟩
   ·rw [if_neg c72] at H
    exact absurd H (by simp)
 ·replace c7 := Bool.eq_false_iff.mpr c7
  subst c7
  have H1 : (none) = some r := by rw [if_neg (show ¬ (false = true) by decide)] at H; exact H
  clear H
  have H := H1
  clear H1
  exact absurd H (by simp)

end Go.Proofs.YthlnjbaichkipaaDoor.XR
-- squeezed
