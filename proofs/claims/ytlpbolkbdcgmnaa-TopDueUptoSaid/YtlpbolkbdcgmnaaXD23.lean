-- by px.py, a program of this session, over the kit's printer: functions given by hand stand beside printed ones. Lean checks all of it.
import Derived.Test.YtlpbolkbdcgmnaaXD0
import Derived.Test.YtlpbolkbdcgmnaaXD3
import Derived.Test.YtlpbolkbdcgmnaaXD4
import Derived.Test.YtlpbolkbdcgmnaaXD5
import Derived.Test.YtlpbolkbdcgmnaaXD6
import Derived.BigRegion
namespace Go.Proofs.Ytlpbolkbdcgmnaa.XD
open Go.RowKit Go.Proofs.YtlpbolkbdcgmnaaW.PrintWords Go.Proofs.YtlpbolkbdcgmnaaW.PrintLast Go.Proofs.YtlpbolkbdcgmnaaW.PrintMore
attribute [local go_sem] max2_int min2_int max_two min_two max_three min_three max_four min_four   -- for this text's walks alone
set_option linter.unusedVariables false
set_option linter.unusedSimpArgs false

-- PXIMPORT Derived.BigRegion
/-! ### heap_Cancel: function 15, by hand -/
/-- The flat form of a heap, a timer and why. -/
def heap_three (l : List (S29)) (x : S29) (why : Int) : List (S29) × Int × Int × Int × Int × Int := (l, x.f0, x.f1, x.f2, x.f3, why)
def heap_Cancel.f (k : Nat) (l0 : List (S29)) (a1 : Int) : Option (List (S29) × Int × Int × Int × Int × Int) := heap_fit l0 ((heap_Check.f k l0).bind fun why => some (if why = 0 then heap_three (if hp_find a1 l0 < 0 then l0 else Hp.take_ z29 tm_lt l0 (hp_find a1 l0).toNat) (if hp_find a1 l0 < 0 then z29 else Hp.g z29 l0 (hp_find a1 l0).toNat) (if hp_find a1 l0 < 0 then 3 else 0) else heap_three [] z29 why))
theorem heap_Cancel.mono : ∀ a0 a1 k, LeO (heap_Cancel.f k a0 a1) (heap_Cancel.f (k + 1) a0 a1) := fun a0 a1 k => heap_fit_le (LeO.bind (heap_Check.mono _ _) (fun _ => LeO.refl _))
set_option maxHeartbeats 2000000 in
set_option maxRecDepth 100000 in
theorem heap_Cancel.calls (k : Nat) (A0 : Option Addr) (c0 : Nat) (l0 : List (S29)) (a1 : Int) (r1 : List (S29)) (r2 : Int) (r3 : Int) (r4 : Int) (r5 : Int) (r6 : Int) (w : World) (hr0 : Kd.C k29 w A0 l0.length l0) (hc0 : l0.length ≤ c0) (h : heap_Cancel.f k l0 a1 = some (r1, r2, r3, r4, r5, r6)) :
  Calls Try.prog 15 #[.slice A0 l0.length c0, .int .i64 a1] w fun e w' => ∃ v0_ : Value, e = .returned (.tuple #[v0_, .agg #[.int .i64 r2, .int .i64 r3, .int .u8 r4, .int .i64 r5], .int .i64 r6]) ∧ Kd.V k29 29 w' w.heap.size (fun k_ => (w.heap.size ≤ k_)) v0_ r1 ∧ Below w.heap.size w w' := by
 have hu := Try.underlying29
 have hu2 := Try.underlying62
 obtain ⟨hlen, h⟩ := heap_fit_some h
 obtain ⟨why, hch, h⟩ := Option.bind_eq_some_iff.mp h
 have hbl := below_alloc (Below.refl w.heap.size w) (.cells #[.int .i64 0, .int .i64 0, .int .u8 0, .int .i64 0] 29)
 have HO := heap_Open k A0 c0 l0 why (w.alloc (.cells #[.int .i64 0, .int .i64 0, .int .u8 0, .int .i64 0] 29)) (Kd.C_below hr0 hbl) hc0 hch hlen
 have HA := Lib.hid (blk_new w (.cells #[.int .i64 0, .int .i64 0, .int .u8 0, .int .i64 0] 29))
 have HBL := Lib.hid hbl
 clear hr0 hch hbl
 have H := Option.some.inj h
 clear h
 by_cases c : why = 0
 rotate_left
 ·rw [if_neg c] at H
  rw [if_neg c] at HO
  have d : (why != 0) = true := bne_iff_ne.mpr c
  unfold heap_three at H
  simp only [Prod.mk.injEq] at H
  obtain ⟨rfl, rfl, rfl, rfl, rfl, rfl⟩ := H
  go_enter Try.func15, Try.ntmps15
  go_wp2_with (go_at_call 46; refine HO.mono ?_; rintro e w3 ⟨g, rfl, hq3, hb3⟩; have HA3 := Lib.hid ((hb3.block _ (blk_lt HA.out)).trans HA.out); have HB3 := Lib.hid (below_then HBL.out HBL.out.size hb3); clear hb3 hq3; have a0 := blk_cell HA3.out 0; have a1 := blk_cell HA3.out 1; have a2 := blk_cell HA3.out 2; have a3 := blk_cell HA3.out 3; have b0 := blk_frozen HA3.out 0; have b1 := blk_frozen HA3.out 1; have b2 := blk_frozen HA3.out 2; have b3 := blk_frozen HA3.out 3; simp only [List.getElem?_toArray, List.getElem?_cons_zero, List.getElem?_cons_succ] at a0 a1 a2 a3)
  refine bodyPost_ret (v := .tuple #[.slice none 0 0, .agg #[.int .i64 0, .int .i64 0, .int .u8 0, .int .i64 0], .int .i64 why]) (by simp [results, Try.results15, go_sem, a0, a1, a2, a3, b0, b1, b2, b3]) rfl ⟨_, rfl, Kd.V_nil _ _ _ _ _, ?_⟩
  exact (((HB3.out.setCell (p := ⟨w.heap.size, 0, none⟩) (Nat.le_refl _) _).setCell (p := ⟨w.heap.size, 1, none⟩) (Nat.le_refl _) _).setCell (p := ⟨w.heap.size, 2, none⟩) (Nat.le_refl _) _).setCell (p := ⟨w.heap.size, 3, none⟩) (Nat.le_refl _) _
 ·rw [if_pos c] at H HO
  subst c
  unfold heap_three at H
  simp only [Prod.mk.injEq] at H
  go_enter Try.func15, Try.ntmps15
  go_upto_region 4 with (go_at_call 46; refine HO.mono ?_; rintro e w3 ⟨g, rfl, hq3, hb3⟩; have HA3 := Lib.hid ((hb3.block _ (blk_lt HA.out)).trans HA.out); have HB3 := Lib.hid (below_then HBL.out HBL.out.size hb3); have HQ3 := Lib.hid hq3; have HZ3 := Lib.hid hb3.size; clear hb3 hq3)
  have hlen2 : l0.length ≤ 4398046511104 := by omega
  have HP := queue_cancel _ g l0 a1 w3 hlen2 (fun k hk => hk.2) HQ3.out
  generalize hxx : (if hp_find a1 l0 < 0 then z29 else Hp.g z29 l0 (hp_find a1 l0).toNat) = x at HP H
  generalize (if hp_find a1 l0 < 0 then l0 else Hp.take_ z29 tm_lt l0 (hp_find a1 l0).toNat) = l2 at HP H
  generalize (if hp_find a1 l0 < 0 then (3 : Int) else 0) = y at HP H
  obtain ⟨rfl, rfl, rfl, rfl, rfl, rfl⟩ := H
  clear hxx
  have hnP : ¬ ((w.alloc (.cells #[.int .i64 0, .int .i64 0, .int .u8 0, .int .i64 0] 29)).heap.size ≤ w.heap.size ∧ w.heap.size < w3.heap.size) := fun h => by have h1 := h.1; rw [show (w.alloc (.cells #[.int .i64 0, .int .i64 0, .int .u8 0, .int .i64 0] 29)).heap.size = w.heap.size + 1 from Array.size_push _] at h1; omega
  go_upto_region 5 with (go_at_call 47; refine HP.mono ?_; rintro e w5 ⟨x_, hx_, rfl, hq5, hm5⟩; obtain rfl : x = x_ := hx_.symm; have HQ5 := Lib.hid hq5; have HM5 := Lib.hid hm5; clear hq5 hm5)
  have HA5 := Lib.hid (HM5.out.blk HA3.out hnP)
  obtain ⟨w6, hw6⟩ : ∃ w6, w6 = w5.alloc (.cells #[.int .i64 x.f0, .int .i64 x.f1, .int .u8 x.f2, .int .i64 x.f3] 29) := ⟨_, rfl⟩
  rw [← hw6]
  have hb56 : Below w5.heap.size w5 w6 := by rw [hw6]; exact below_alloc (Below.refl _ _) _
  have HX6 : Hid (w6.heap[w5.heap.size]? = some (.cells #[.int .i64 x.f0, .int .i64 x.f1, .int .u8 x.f2, .int .i64 x.f3] 29 (0, 0))) := Lib.hid (by rw [hw6]; exact blk_new _ _)
  have HQ6 := Lib.hid (HQ5.out.below hb56)
  have HM6 := Lib.hid (HM5.out.below hb56)
  have HA6 := Lib.hid ((hb56.block _ (blk_lt HA5.out)).trans HA5.out)
  have hg5 : g < w5.heap.size := by obtain ⟨_, v, hrow, _⟩ := HQ5.out; exact blk_lt hrow
  have hs5 : w.heap.size < w5.heap.size := blk_lt HA5.out
  have hgs : g ≠ w.heap.size := fun e => by have h1 := HQ5.out.1.1; rw [show (w.alloc (.cells #[.int .i64 0, .int .i64 0, .int .u8 0, .int .i64 0] 29)).heap.size = w.heap.size + 1 from Array.size_push _] at h1; omega
  clear hw6 hb56 HQ5 HM5 HA5 HA3 HP HO HA HQ3
  obtain ⟨hPg, v, hrow, hPv, htr⟩ := HQ6.out
  obtain ⟨A7, c7, rfl, hlc7⟩ := htr.slice
  have HROW := Lib.hid hrow
  have hc := blk_cell hrow 0
  have HA3 := HA6
  have a0 := blk_cell HA3.out 0
  have a1 := blk_cell HA3.out 1
  have a2 := blk_cell HA3.out 2
  have a3 := blk_cell HA3.out 3
  have b0 := blk_frozen HA3.out 0
  have b1 := blk_frozen HA3.out 1
  have b2 := blk_frozen HA3.out 2
  have b3 := blk_frozen HA3.out 3
  simp only [List.getElem?_toArray, List.getElem?_cons_zero, List.getElem?_cons_succ] at a0 a1 a2 a3
  have x0 := blk_cell HX6.out 0
  have x1 := blk_cell HX6.out 1
  have x2 := blk_cell HX6.out 2
  have x3 := blk_cell HX6.out 3
  simp only [List.getElem?_toArray, List.getElem?_cons_zero, List.getElem?_cons_succ] at x0 x1 x2 x3 hc
  have n1 : w5.heap.size ≠ w.heap.size := by omega
  clear hrow hPv htr
  go_big_region
  all_goals
   go_wp2
   refine bodyPost_ret (v := .tuple #[.slice A7 l2.length c7, .agg #[.int .i64 x.f0, .int .i64 x.f1, .int .u8 x.f2, .int .i64 x.f3], .int .i64 y]) (by simp [results, Try.results15, go_sem, a0, a1, a2, a3, b0, b1, b2, b3]) rfl ⟨_, rfl, ?_, ?_⟩
   ·have hv := HQ6.out.toV (B := w.heap.size + 1) HROW.out (fun k hk => by have h1 := hk.1; rw [show (w.alloc (.cells #[.int .i64 0, .int .i64 0, .int .u8 0, .int .i64 0] 29)).heap.size = w.heap.size + 1 from Array.size_push _] at h1; omega)
    have hv2 := Kd.V_drew (Kd.V_far (p := ⟨w.heap.size, 3, none⟩) (Kd.V_far (p := ⟨w.heap.size, 2, none⟩) (Kd.V_far (p := ⟨w.heap.size, 1, none⟩) (Kd.V_far (p := ⟨w.heap.size, 0, none⟩) hv (fun k hk => by simp only; omega) (.int .i64 x.f0)) (fun k hk => by simp only; omega) (.int .i64 x.f1)) (fun k hk => by simp only; omega) (.int .u8 x.f2)) (fun k hk => by simp only; omega) (.int .i64 x.f3))
    exact Kd.V_mono hv2 (fun k hk => by omega)
   ·have hb6 := HB3.out.trans (HM6.out.under (B := w.heap.size) HB3.out.size (fun k hk => by have h1 := hk.1; rw [show (w.alloc (.cells #[.int .i64 0, .int .i64 0, .int .u8 0, .int .i64 0] 29)).heap.size = w.heap.size + 1 from Array.size_push _] at h1; omega))
    exact below_drew1 ((((hb6.setCell (p := ⟨w.heap.size, 0, none⟩) (Nat.le_refl _) (.int .i64 x.f0)).setCell (p := ⟨w.heap.size, 1, none⟩) (Nat.le_refl _) (.int .i64 x.f1)).setCell (p := ⟨w.heap.size, 2, none⟩) (Nat.le_refl _) (.int .u8 x.f2)).setCell (p := ⟨w.heap.size, 3, none⟩) (Nat.le_refl _) (.int .i64 x.f3))


end Go.Proofs.Ytlpbolkbdcgmnaa.XD
-- squeezed
