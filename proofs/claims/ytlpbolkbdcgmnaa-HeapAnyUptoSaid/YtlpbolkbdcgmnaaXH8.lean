-- by px.py, a program of this session, over the kit's printer: functions given by hand stand beside printed ones. Lean checks all of it.
import Derived.Test.YtlpbolkbdcgmnaaXH0
import Derived.Test.YtlpbolkbdcgmnaaXH3
import Derived.Test.YtlpbolkbdcgmnaaXH5
import Derived.Test.YtlpbolkbdcgmnaaXH6
import Derived.BigRegion
import Derived.Lib.AppendZeros
import Derived.Deep.RegionLaw
namespace Go.Proofs.Ytlpbolkbdcgmnaa.XH
open Go.RowKit Go.Proofs.YtlpbolkbdcgmnaaW.PrintWords Go.Proofs.YtlpbolkbdcgmnaaW.PrintLast Go.Proofs.YtlpbolkbdcgmnaaW.PrintMore
attribute [local go_sem] max2_int min2_int max_two min_two max_three min_three max_four min_four   -- for this text's walks alone
set_option linter.unusedVariables false
set_option linter.unusedSimpArgs false

-- NOT PRINTED: function 55 (heap_Queue_Pop)

-- PXIMPORT Derived.BigRegion
/-! ### heap_Pop: function 24, by hand -/
def heap_Pop.f (k : Nat) (l0 : List (S29)) : Option (List (S29) × Int × Int × Int × Int × Int) := heap_fit l0 ((heap_Check.f k l0).bind fun why => some (if why = 0 then heap_three (if l0.length = 0 then [] else Hp.take_ z29 tm_lt l0 0) (Hp.g z29 l0 0) (if l0.length = 0 then 3 else 0) else heap_three [] z29 why))
theorem heap_Pop.mono : ∀ a0 k, LeO (heap_Pop.f k a0) (heap_Pop.f (k + 1) a0) := fun a0 k => heap_fit_le (LeO.bind (heap_Check.mono _ _) (fun _ => LeO.refl _))
set_option maxHeartbeats 2000000 in
set_option maxRecDepth 100000 in
theorem heap_Pop.calls (k : Nat) (A0 : Option Addr) (c0 : Nat) (l0 : List (S29)) (r1 : List (S29)) (r2 : Int) (r3 : Int) (r4 : Int) (r5 : Int) (r6 : Int) (w : World) (hr0 : Kd.C k29 w A0 l0.length l0) (hc0 : l0.length ≤ c0) (h : heap_Pop.f k l0 = some (r1, r2, r3, r4, r5, r6)) :
  Calls Try.prog 24 #[.slice A0 l0.length c0] w fun e w' => ∃ v0_ : Value, e = .returned (.tuple #[v0_, .agg #[.int .i64 r2, .int .i64 r3, .int .u8 r4, .int .i64 r5], .int .i64 r6]) ∧ Kd.V k29 29 w' w.heap.size (fun k_ => (w.heap.size ≤ k_)) v0_ r1 ∧ Below w.heap.size w w' := by
 have hu := Try.underlying29
 have hu2 := Try.underlying62
 obtain ⟨hlen, h⟩ := heap_fit_some h
 obtain ⟨why, hch, h⟩ := Option.bind_eq_some_iff.mp h
 have hbl := below_alloc (Below.refl w.heap.size w) (.cells #[.int .i64 0, .int .i64 0, .int .u8 0, .int .i64 0] 29)
 have HO := heap_Open k A0 c0 l0 why (w.alloc (.cells #[.int .i64 0, .int .i64 0, .int .u8 0, .int .i64 0] 29)) (Kd.C_below hr0 hbl) hc0 hch hlen
 have HA := Lib.hid (blk_new w (.cells #[.int .i64 0, .int .i64 0, .int .u8 0, .int .i64 0] 29))
 have HBL := Lib.hid hbl
 clear hr0 hch hbl
 have H := Option.some.inj h
 clear h
 by_cases c : why = 0
 rotate_left
 ·rw [if_neg c] at H
  rw [if_neg c] at HO
  have d : (why != 0) = true := bne_iff_ne.mpr c
  unfold heap_three at H
  simp only [Prod.mk.injEq] at H
  obtain ⟨rfl, rfl, rfl, rfl, rfl, rfl⟩ := H
  go_enter Try.func24, Try.ntmps24
  go_wp2_with (go_at_call 46; refine HO.mono ?_; rintro e w3 ⟨g, rfl, hq3, hb3⟩; have HA3 := Lib.hid ((hb3.block _ (blk_lt HA.out)).trans HA.out); have HB3 := Lib.hid (below_then HBL.out HBL.out.size hb3); clear hb3 hq3; have a0 := blk_cell HA3.out 0; have a1 := blk_cell HA3.out 1; have a2 := blk_cell HA3.out 2; have a3 := blk_cell HA3.out 3; have b0 := blk_frozen HA3.out 0; have b1 := blk_frozen HA3.out 1; have b2 := blk_frozen HA3.out 2; have b3 := blk_frozen HA3.out 3; simp only [List.getElem?_toArray, List.getElem?_cons_zero, List.getElem?_cons_succ] at a0 a1 a2 a3)
  refine bodyPost_ret (v := .tuple #[.slice none 0 0, .agg #[.int .i64 0, .int .i64 0, .int .u8 0, .int .i64 0], .int .i64 why]) (by simp [results, Try.results24, go_sem, a0, a1, a2, a3, b0, b1, b2, b3]) rfl ⟨_, rfl, Kd.V_nil _ _ _ _ _, ?_⟩
  exact (((HB3.out.setCell (p := ⟨w.heap.size, 0, none⟩) (Nat.le_refl _) _).setCell (p := ⟨w.heap.size, 1, none⟩) (Nat.le_refl _) _).setCell (p := ⟨w.heap.size, 2, none⟩) (Nat.le_refl _) _).setCell (p := ⟨w.heap.size, 3, none⟩) (Nat.le_refl _) _
 ·rw [if_pos c] at H HO
  subst c
  unfold heap_three at H
  simp only [Prod.mk.injEq] at H
  go_enter Try.func24, Try.ntmps24
  go_upto_region 4 with (go_at_call 46; refine HO.mono ?_; rintro e w3 ⟨g, rfl, hq3, hb3⟩; have HA3 := Lib.hid ((hb3.block _ (blk_lt HA.out)).trans HA.out); have HB3 := Lib.hid (below_then HBL.out HBL.out.size hb3); have HQ3 := Lib.hid hq3; have HZ3 := Lib.hid hb3.size; clear hb3 hq3)
  have hlen2 : l0.length ≤ 4398046511104 := by omega
  have HP := queue_pop _ g l0 w3 hlen2 (fun k hk => hk.2) HQ3.out
  generalize Hp.g z29 l0 0 = x at HP H
  generalize (if l0.length = 0 then [] else Hp.take_ z29 tm_lt l0 0) = l2 at HP H
  generalize (if l0.length = 0 then (3 : Int) else 0) = y at HP H
  obtain ⟨rfl, rfl, rfl, rfl, rfl, rfl⟩ := H
  have hnP : ¬ ((w.alloc (.cells #[.int .i64 0, .int .i64 0, .int .u8 0, .int .i64 0] 29)).heap.size ≤ w.heap.size ∧ w.heap.size < w3.heap.size) := fun h => by have h1 := h.1; rw [show (w.alloc (.cells #[.int .i64 0, .int .i64 0, .int .u8 0, .int .i64 0] 29)).heap.size = w.heap.size + 1 from Array.size_push _] at h1; omega
  go_upto_region 5 with (go_at_call 55; refine HP.mono ?_; rintro e w5 ⟨rfl, hq5, hm5⟩; have HQ5 := Lib.hid hq5; have HM5 := Lib.hid hm5; clear hq5 hm5)
  have HA5 := Lib.hid (HM5.out.blk HA3.out hnP)
  obtain ⟨w6, hw6⟩ : ∃ w6, w6 = w5.alloc (.cells #[.int .i64 x.f0, .int .i64 x.f1, .int .u8 x.f2, .int .i64 x.f3] 29) := ⟨_, rfl⟩
  rw [← hw6]
  have hb56 : Below w5.heap.size w5 w6 := by rw [hw6]; exact below_alloc (Below.refl _ _) _
  have HX6 : Hid (w6.heap[w5.heap.size]? = some (.cells #[.int .i64 x.f0, .int .i64 x.f1, .int .u8 x.f2, .int .i64 x.f3] 29 (0, 0))) := Lib.hid (by rw [hw6]; exact blk_new _ _)
  have HQ6 := Lib.hid (HQ5.out.below hb56)
  have HM6 := Lib.hid (HM5.out.below hb56)
  have HA6 := Lib.hid ((hb56.block _ (blk_lt HA5.out)).trans HA5.out)
  have hg5 : g < w5.heap.size := by obtain ⟨_, v, hrow, _⟩ := HQ5.out; exact blk_lt hrow
  have hs5 : w.heap.size < w5.heap.size := blk_lt HA5.out
  have hgs : g ≠ w.heap.size := fun e => by have h1 := HQ5.out.1.1; rw [show (w.alloc (.cells #[.int .i64 0, .int .i64 0, .int .u8 0, .int .i64 0] 29)).heap.size = w.heap.size + 1 from Array.size_push _] at h1; omega
  clear hw6 hb56 HQ5 HM5 HA5 HA3 HP HO HA HQ3
  obtain ⟨hPg, v, hrow, hPv, htr⟩ := HQ6.out
  obtain ⟨A7, c7, rfl, hlc7⟩ := htr.slice
  have HROW := Lib.hid hrow
  have hc := blk_cell hrow 0
  have HA3 := HA6
  have a0 := blk_cell HA3.out 0
  have a1 := blk_cell HA3.out 1
  have a2 := blk_cell HA3.out 2
  have a3 := blk_cell HA3.out 3
  have b0 := blk_frozen HA3.out 0
  have b1 := blk_frozen HA3.out 1
  have b2 := blk_frozen HA3.out 2
  have b3 := blk_frozen HA3.out 3
  simp only [List.getElem?_toArray, List.getElem?_cons_zero, List.getElem?_cons_succ] at a0 a1 a2 a3
  have x0 := blk_cell HX6.out 0
  have x1 := blk_cell HX6.out 1
  have x2 := blk_cell HX6.out 2
  have x3 := blk_cell HX6.out 3
  simp only [List.getElem?_toArray, List.getElem?_cons_zero, List.getElem?_cons_succ] at x0 x1 x2 x3 hc
  have n1 : w5.heap.size ≠ w.heap.size := by omega
  clear hrow hPv htr
  go_big_region
  all_goals
   go_wp2
   refine bodyPost_ret (v := .tuple #[.slice A7 l2.length c7, .agg #[.int .i64 x.f0, .int .i64 x.f1, .int .u8 x.f2, .int .i64 x.f3], .int .i64 y]) (by simp [results, Try.results24, go_sem, a0, a1, a2, a3, b0, b1, b2, b3]) rfl ⟨_, rfl, ?_, ?_⟩
   ·have hv := HQ6.out.toV (B := w.heap.size + 1) HROW.out (fun k hk => by have h1 := hk.1; rw [show (w.alloc (.cells #[.int .i64 0, .int .i64 0, .int .u8 0, .int .i64 0] 29)).heap.size = w.heap.size + 1 from Array.size_push _] at h1; omega)
    have hv2 := Kd.V_drew (Kd.V_far (p := ⟨w.heap.size, 3, none⟩) (Kd.V_far (p := ⟨w.heap.size, 2, none⟩) (Kd.V_far (p := ⟨w.heap.size, 1, none⟩) (Kd.V_far (p := ⟨w.heap.size, 0, none⟩) hv (fun k hk => by simp only; omega) (.int .i64 x.f0)) (fun k hk => by simp only; omega) (.int .i64 x.f1)) (fun k hk => by simp only; omega) (.int .u8 x.f2)) (fun k hk => by simp only; omega) (.int .i64 x.f3))
    exact Kd.V_mono hv2 (fun k hk => by omega)
   ·have hb6 := HB3.out.trans (HM6.out.under (B := w.heap.size) HB3.out.size (fun k hk => by have h1 := hk.1; rw [show (w.alloc (.cells #[.int .i64 0, .int .i64 0, .int .u8 0, .int .i64 0] 29)).heap.size = w.heap.size + 1 from Array.size_push _] at h1; omega))
    exact below_drew1 ((((hb6.setCell (p := ⟨w.heap.size, 0, none⟩) (Nat.le_refl _) (.int .i64 x.f0)).setCell (p := ⟨w.heap.size, 1, none⟩) (Nat.le_refl _) (.int .i64 x.f1)).setCell (p := ⟨w.heap.size, 2, none⟩) (Nat.le_refl _) (.int .u8 x.f2)).setCell (p := ⟨w.heap.size, 3, none⟩) (Nat.le_refl _) (.int .i64 x.f3))


-- PXIMPORT Derived.Lib.AppendZeros
-- PXIMPORT Derived.Deep.RegionLaw
/-! ### heap_Queue_Push: function 56, by hand -/
theorem HQ.pushed {P : Nat → Prop} {g : Nat} {w w1 : World} {v v1 : Value} {l' : List S29} (hPg : P g) (hrow : w.heap[g]? = some (.cells #[v] 62 (0, 0))) (hPv : ∀ k, v.ownBlock = some k → P k) (hb : ∀ k, v.ownBlock = some k → k ≠ g) (hgr : w.grownBy w1 v.ownBlock) (hat : v1.ownBlock = v.ownBlock ∨ v1.ownBlock = some w.heap.size) (ht : TRow tm_enc 4 29 w1 v1 l') {n : Nat} (hn : n ≤ w.heap.size) :
  HQ (fun k => P k ∨ (n ≤ k ∧ k < w1.heap.size)) g (w1.setCell ⟨g, 0, none⟩ v1) l' := by
 have hg1 : w1.heap[g]? = some (.cells #[v] 62 (0, 0)) := (hgr.block g (blk_lt hrow) (fun e => hb g e.symm rfl)).trans hrow
 have hs := blk_set hg1 0 v1
 refine ⟨.inl hPg, v1, hs, fun k hk => ?_, ht.moved (fun k hk => Below.heap_setCell _ ⟨g, 0, none⟩ _ k (fun e => ?_))⟩
 ·rcases hat with h | h
  ·exact .inl (hPv k (h ▸ hk))
  ·rw [h] at hk
   injection hk with hk
   subst hk
   exact .inr ⟨hn, ht.lt _ h⟩
 ·have hk2 := hk
  rcases hat with h | h
  ·exact hb k (h ▸ hk) e
  ·rw [h] at hk
   injection hk with hk
   have := blk_lt hrow
   change k = g at e
   omega
set_option maxHeartbeats 2000000 in
set_option maxRecDepth 100000 in
theorem queue_push (P : Nat → Prop) (g : Nat) (l : List S29) (x : S29) (w : World) (hL : l.length < 4398046511104) (hP : ∀ k, P k → k < w.heap.size) (hq : HQ P g w l) :
  Calls Try.prog 56 #[.pointer (some ⟨g, 0, none⟩), .agg #[.int .i64 x.f0, .int .i64 x.f1, .int .u8 x.f2, .int .i64 x.f3]] w fun e w' => e = .returned (.int .i64 (if 0 ≤ hp_find x.f1 l then 4 else if l.length = 4096 then 8 else 0)) ∧ HQ (fun k => P k ∨ (w.heap.size ≤ k ∧ k < w'.heap.size)) g w' (if 0 ≤ hp_find x.f1 l then l else if l.length = 4096 then l else Hp.up z29 tm_lt l.length (l ++ [x]) l.length) ∧ Mv P w w' := by
 have hu := Try.underlying29
 have hgw : g < w.heap.size := by obtain ⟨_, v, hrow, _⟩ := hq; exact blk_lt hrow
 have hne : g ≠ w.heap.size := by omega
 have hPs : ¬ P w.heap.size := fun h => by have := hP _ h; omega
 have hbl := (below_alloc (Below.refl w.heap.size w) (.cells #[.int .i64 x.f0, .int .i64 x.f1, .int .u8 x.f2, .int .i64 x.f3] 29))
 have HF := queue_find P g l x.f1 (w.alloc (.cells #[.int .i64 x.f0, .int .i64 x.f1, .int .u8 x.f2, .int .i64 x.f3] 29)) (hq.below hbl)
 have HA := Lib.hid (take_new (w := w) (.cells #[.int .i64 x.f0, .int .i64 x.f1, .int .u8 x.f2, .int .i64 x.f3] 29))
 have HQ1 := Lib.hid (hq.below hbl)
 have HM := Lib.hid (Mv.of_below hbl P)
 have HP := Lib.hid hP
 clear hq hbl hP
 generalize hp_find x.f1 l = r at HF ⊢
 by_cases hf : 0 ≤ r
 ·rw [if_pos hf, if_pos hf]
  have d0 : decide (0 ≤ r) = true := decide_eq_true hf
  go_enter Try.func56, Try.ntmps56
  go_wp2_with (go_at_call 64; refine HF.mono ?_; rintro e w3 ⟨rfl, hb3⟩; have HQ3 := Lib.hid (HQ1.out.below hb3); have HM3 := Lib.hid (HM.out.below hb3); clear hb3)
  go_ret
  exact ⟨rfl, HQ3.out.mono (fun k hk => .inl hk), HM3.out⟩
 ·rw [if_neg hf, if_neg hf]
  have d0 : decide (0 ≤ r) = false := decide_eq_false hf
  have hf2 : r < 0 := by omega
  by_cases hm : l.length = 4096
  ·rw [if_pos hm, if_pos hm]
   have d1 : ((l.length : Int) == 4096) = true := beq_iff_eq.mpr (by omega)
   have d2 : ((l.length : Int) = 4096) = True := eq_true (by omega)
   have HMM := Lib.hid hm
   clear hm
   go_enter Try.func56, Try.ntmps56
   go_wp2_with (go_at_call 64; refine HF.mono ?_; rintro e w3 ⟨rfl, hb3⟩; have HQ3 := Lib.hid (HQ1.out.below hb3); have HM3 := Lib.hid (HM.out.below hb3); clear hb3; obtain ⟨hPg3, v3, hrow3, hPv3, htr3⟩ := HQ3.out; obtain ⟨A3, c3, rfl, hlc3⟩ := htr3.slice; have hc3 := blk_cell hrow3 0; simp only [List.getElem?_toArray, List.getElem?_cons_zero] at hc3; clear hrow3 htr3 hPv3)
   go_ret
   exact ⟨rfl, HQ3.out.mono (fun k hk => .inl hk), HM3.out⟩
  ·rw [if_neg hm, if_neg hm]
   have d1 : ((l.length : Int) == 4096) = false := beq_eq_false_iff_ne.mpr (by omega)
   have d2 : ((l.length : Int) = 4096) = False := eq_false (by omega)
   have HMM := Lib.hid hm
   clear hm
   go_enter Try.func56, Try.ntmps56
   go_upto_region 5 with (go_at_call 64; refine HF.mono ?_; rintro e w3 ⟨rfl, hb3⟩; have HQ3 := Lib.hid (HQ1.out.below hb3); have HM3 := Lib.hid (HM.out.below hb3); have HA3 := Lib.hid ((hb3.block _ (blk_lt HA.out)).trans HA.out); clear hb3; obtain ⟨hPg3, v3, hrow3, hPv3, htr3⟩ := HQ3.out; obtain ⟨A3, c3, hv3, hlc3⟩ := htr3.slice; rw [hv3] at hrow3; have hc3 := blk_cell hrow3 0; simp only [List.getElem?_toArray, List.getElem?_cons_zero] at hc3; have HR3 := Lib.hid (And.intro hv3 (And.intro hrow3 (And.intro hPv3 htr3))); clear hrow3 htr3 hPv3 hv3)
   have x0 := blk_cell HA3.out 0
   have x1 := blk_cell HA3.out 1
   have x2 := blk_cell HA3.out 2
   have x3 := blk_cell HA3.out 3
   have fg := HR3.out.2.1
   replace fg := blk_frozen fg 0
   simp only [List.getElem?_toArray, List.getElem?_cons_zero, List.getElem?_cons_succ] at x0 x1 x2 x3
   obtain ⟨hv3, hrow3, hPv3, htr3⟩ := HR3.out
   rw [hv3] at hPv3 htr3
   have htr4 : TRow tm_enc 4 29 (w3.alloc (.cells #[.int .i64 x.f0, .int .i64 x.f1, .int .u8 x.f2, .int .i64 x.f3] 29)).drew (.slice A3 l.length c3) l := htr3.moved (fun k hk => (below_drew1 (below_alloc (Below.refl w3.heap.size w3) _)).block k (htr3.lt k hk))
   have hrow4 : (w3.alloc (.cells #[.int .i64 x.f0, .int .i64 x.f1, .int .u8 x.f2, .int .i64 x.f3] 29)).drew.heap[g]? = some (.cells #[.slice A3 l.length c3] 62 (0, 0)) := ((below_drew1 (below_alloc (Below.refl w3.heap.size w3) _)).block g (blk_lt hrow3)).trans hrow3
   have HM4 := HM3.out.below (below_drew1 (below_alloc (Below.refl w3.heap.size w3) (.cells #[.int .i64 x.f0, .int .i64 x.f1, .int .u8 x.f2, .int .i64 x.f3] 29)))
   obtain ⟨i0, hi0, hz0⟩ := info_parts info29
   have hnew : (w3.alloc (.cells #[.int .i64 x.f0, .int .i64 x.f1, .int .u8 x.f2, .int .i64 x.f3] 29)).drew.heap[w3.heap.size]? = some (.cells #[.int .i64 x.f0, .int .i64 x.f1, .int .u8 x.f2, .int .i64 x.f3] 29) := take_new (w := w3) (.cells #[.int .i64 x.f0, .int .i64 x.f1, .int .u8 x.f2, .int .i64 x.f3] 29)
   obtain ⟨v5, w5, hrun, ht5, hgr5, hat5⟩ := run_append_trow (P := Try.prog) (T := 22) (ty := 22) (enc := tm_enc) (sz := 4) Try.underlying22 hi0 hz0.1 hz0.2.1 rfl (by rw [hz0.2.2]; decide) (fun _ => rfl) (fun y u hu => by simp [tm_enc] at hu; rcases hu with rfl | rfl | rfl | rfl <;> rfl) htr4 x w3.heap.size (fun t u hu => by
    rw [blk_cell hnew, ← hu]
    unfold tm_enc
    rw [List.getElem?_toArray]) (by rw [hz0.2.2]; omega)
   have hqp := HQ.pushed (n := w.heap.size) hPg3 hrow4 hPv3 (fun k hk e => by
    obtain ⟨cur, hcur⟩ := htr4.typed k hk
    rw [e, hrow4] at hcur
    cases hcur) hgr5 hat5 ht5 HM4.size
   have hm5 : Mv P w w5 := HM4.grown hgr5 (fun k hk => .inl (hPv3 k hk))
   have hm6 := hm5.set (p := ⟨g, 0, none⟩) (.inl hPg3) v5
   have fg5 : w5.frozen? ⟨g, 0, none⟩ = false := blk_frozen ((hgr5.block g (blk_lt hrow4) (fun e => by
    obtain ⟨cur, hcur⟩ := htr4.typed g e.symm
    rw [hrow4] at hcur
    cases hcur)).trans hrow4) 0
   have cg5 : w5.cell? ⟨g, 0, none⟩ = some (.slice A3 l.length c3) := (blk_cell ((hgr5.block g (blk_lt hrow4) (fun e => by
    obtain ⟨cur, hcur⟩ := htr4.typed g e.symm
    rw [hrow4] at hcur
    cases hcur)).trans hrow4) 0).trans rfl
   have HQ6 := Lib.hid hqp
   have HM6 := Lib.hid hm6
   have HRUN := Lib.hid hrun
   have hgn : w3.heap.size ≠ g := World.new_ne w3 ⟨g, 0, none⟩ hc3
   have hgn2 : g ≠ w3.heap.size := fun e => hgn e.symm
   have hc4 : (w3.alloc (.cells #[.int .i64 x.f0, .int .i64 x.f1, .int .u8 x.f2, .int .i64 x.f3] 29)).cell? ⟨g, 0, none⟩ = some (.slice A3 l.length c3) := (World.cell?_alloc_lt _ _ _ (World.block_lt_of_cell? w3 ⟨g, 0, none⟩ hc3)).trans hc3
   have hv5 := ht5.slice
   obtain ⟨A5, c5, rfl, hlc5⟩ := hv5
   clear hqp hm6 hm5 hgr5 hat5 ht5 hnew HM4 hrow4 htr4 hPv3 htr3 hrow3 hv3 hi0 hz0 hrun
   go_region_law (refine event_step (w1 := w5) (v := .slice A5 (l ++ [x]).length c5) (by rfl) (by simp [execOp, resolve, invoke, builtin, Act.eval, Act.put, HRUN.out, Result.andThen]) ?_)
   all_goals
    have hal : (l ++ [x]).length = l.length + 1 := by simp
    obtain ⟨w6, hw6⟩ : ∃ w6, w6 = w5.setCell ⟨g, 0, none⟩ (.slice A5 (l.length + 1) c5) := ⟨_, rfl⟩
    rw [← hw6]
    rw [hal] at HQ6 HM6
    rw [← hw6] at HQ6 HM6
    have hsz : w6.heap.size = w5.heap.size := by rw [hw6]; simp [World.setCell]
    have HSZ := Lib.hid hsz
    have cg6 : w6.cell? ⟨g, 0, none⟩ = some (.slice A5 (l.length + 1) c5) := by
     rw [hw6]
     exact World.cell?_setCell_same _ _ _ (by rw [cg5])
    have HUP : Calls Try.prog 71 #[.pointer (some ⟨g, 0, none⟩), .int .i64 (l.length : Int)] w6 _ := queue_up (fun k => P k ∨ (w.heap.size ≤ k ∧ k < w5.heap.size)) g (l ++ [x]) l.length w6 (by simp) HQ6.out
    clear hw6 hsz cg5 fg5 HRUN x0 x1 x2 x3 hc3 hc4 fg
    go_wp2_with (go_at_call 71; refine HUP.mono ?_; rintro e w7 ⟨rfl, hq7, hm7⟩; have HQ7 := Lib.hid hq7; have HM7 := Lib.hid hm7; clear hq7 hm7)
    go_ret
    have hs7 := HM7.out.size
    have hz := HSZ.out
    exact ⟨rfl, HQ7.out.mono (fun k hk => hk.imp (fun h => h) (fun h => ⟨h.1, by omega⟩)), HM6.out.then_ HM7.out (fun k hk => hk.imp (fun h => h) (fun h => h.1))⟩

/-! ### heap_Push: function 28, by hand -/
def heap_Push.f (k : Nat) (l0 : List (S29)) (a1_0 a1_1 a1_2 a1_3 : Int) : Option (List (S29) × Int) := heap_fit l0 ((heap_Check.f k l0).bind fun why => some (if why = 0 then (if 0 ≤ hp_find a1_1 l0 then l0 else if l0.length = 4096 then l0 else Hp.up z29 tm_lt l0.length (l0 ++ [⟨a1_0, a1_1, a1_2, a1_3⟩]) l0.length, if 0 ≤ hp_find a1_1 l0 then 4 else if l0.length = 4096 then 8 else 0) else ([], why)))
theorem heap_Push.mono : ∀ a0 a1 a2 a3 a4 k, LeO (heap_Push.f k a0 a1 a2 a3 a4) (heap_Push.f (k + 1) a0 a1 a2 a3 a4) := fun a0 a1 a2 a3 a4 k => heap_fit_le (LeO.bind (heap_Check.mono _ _) (fun _ => LeO.refl _))
set_option maxHeartbeats 2000000 in
set_option maxRecDepth 100000 in
theorem heap_Push.calls (k : Nat) (A0 : Option Addr) (c0 : Nat) (l0 : List (S29)) (a1_0 a1_1 a1_2 a1_3 : Int) (r1 : List (S29)) (r2 : Int) (w : World) (hr0 : Kd.C k29 w A0 l0.length l0) (hc0 : l0.length ≤ c0) (h : heap_Push.f k l0 a1_0 a1_1 a1_2 a1_3 = some (r1, r2)) :
  Calls Try.prog 28 #[.slice A0 l0.length c0, .agg #[.int .i64 a1_0, .int .i64 a1_1, .int .u8 a1_2, .int .i64 a1_3]] w fun e w' => ∃ v0_ : Value, e = .returned (.tuple #[v0_, .int .i64 r2]) ∧ Kd.V k29 29 w' w.heap.size (fun k_ => (w.heap.size ≤ k_)) v0_ r1 ∧ Below w.heap.size w w' := by
 have hu := Try.underlying29
 have hu2 := Try.underlying62
 obtain ⟨hlen, h⟩ := heap_fit_some h
 obtain ⟨why, hch, h⟩ := Option.bind_eq_some_iff.mp h
 have hbl := below_alloc (Below.refl w.heap.size w) (.cells #[.int .i64 a1_0, .int .i64 a1_1, .int .u8 a1_2, .int .i64 a1_3] 29)
 have HO := heap_Open k A0 c0 l0 why (w.alloc (.cells #[.int .i64 a1_0, .int .i64 a1_1, .int .u8 a1_2, .int .i64 a1_3] 29)) (Kd.C_below hr0 hbl) hc0 hch hlen
 have HA := Lib.hid (blk_new w (.cells #[.int .i64 a1_0, .int .i64 a1_1, .int .u8 a1_2, .int .i64 a1_3] 29))
 have HBL := Lib.hid hbl
 clear hr0 hch hbl
 have H := Option.some.inj h
 clear h
 have hw1 : (w.alloc (.cells #[.int .i64 a1_0, .int .i64 a1_1, .int .u8 a1_2, .int .i64 a1_3] 29)).heap.size = w.heap.size + 1 := Array.size_push _
 have HW1 := Lib.hid hw1
 clear hw1
 by_cases c : why = 0
 rotate_left
 ·rw [if_neg c] at H HO
  have d : (why == 0) = false := beq_eq_false_iff_ne.mpr c
  cases H
  go_enter Try.func28, Try.ntmps28
  go_wp2_with (go_at_call 46; refine HO.mono ?_; rintro e w3 ⟨g, rfl, hq3, hb3⟩; have HB3 := Lib.hid (below_then HBL.out HBL.out.size hb3); have HQ3 := Lib.hid hq3; obtain ⟨hPg, v, hrow, hPv, htr⟩ := hq3; obtain ⟨A7, c7, rfl, hlc7⟩ := htr.slice; simp only [List.length_nil] at hrow; have HROW := Lib.hid hrow; have hc := blk_cell hrow 0; simp only [List.getElem?_toArray, List.getElem?_cons_zero] at hc; clear hb3 hrow hPv htr)
  go_ret2
  refine ⟨.slice A7 0 c7, rfl, ?_, HB3.out⟩
  exact HQ3.out.toV HROW.out (fun k hk => by have h1 := hk.1; rw [HW1.out] at h1; omega)
 ·rw [if_pos c] at H HO
  subst c
  have HP := fun (g : Nat) (W : World) (hW : HQ (fun k => (w.alloc (.cells #[.int .i64 a1_0, .int .i64 a1_1, .int .u8 a1_2, .int .i64 a1_3] 29)).heap.size ≤ k ∧ k < W.heap.size) g W l0) => queue_push _ g l0 ⟨a1_0, a1_1, a1_2, a1_3⟩ W hlen (fun k hk => hk.2) hW
  simp only at HP
  generalize (if 0 ≤ hp_find a1_1 l0 then l0 else if l0.length = 4096 then l0 else Hp.up z29 tm_lt l0.length (l0 ++ [⟨a1_0, a1_1, a1_2, a1_3⟩]) l0.length) = l2 at H HP
  generalize (if 0 ≤ hp_find a1_1 l0 then (4 : Int) else if l0.length = 4096 then 8 else 0) = y at H HP
  cases H
  go_enter Try.func28, Try.ntmps28
  go_upto_if 14 with (go_at_call 46; refine HO.mono ?_; rintro e w3 ⟨g, rfl, hq3, hb3⟩; have HA3 := Lib.hid ((hb3.block _ (blk_lt HA.out)).trans HA.out); have HB3 := Lib.hid (below_then HBL.out HBL.out.size hb3); have HQ3 := Lib.hid hq3; have HZ3 := Lib.hid hb3.size; clear hb3 hq3)
  have HPP := HP g w3 HQ3.out
  have x0 := blk_cell HA3.out 0
  have x1 := blk_cell HA3.out 1
  have x2 := blk_cell HA3.out 2
  have x3 := blk_cell HA3.out 3
  simp only [List.getElem?_toArray, List.getElem?_cons_zero, List.getElem?_cons_succ] at x0 x1 x2 x3
  clear HP
  go_wp2_with (go_at_call 56; refine HPP.mono ?_; rintro e w5 ⟨rfl, hq5, hm5⟩; have HQ5 := Lib.hid hq5; have HM5 := Lib.hid hm5; obtain ⟨hPg, v, hrow, hPv, htr⟩ := hq5; obtain ⟨A7, c7, rfl, hlc7⟩ := htr.slice; have HROW := Lib.hid hrow; have hc := blk_cell hrow 0; simp only [List.getElem?_toArray, List.getElem?_cons_zero] at hc; clear hm5 hrow hPv htr hPg)
  go_ret2
  refine ⟨.slice A7 r1.length c7, rfl, ?_, HB3.out.trans (HM5.out.under (B := w.heap.size) HB3.out.size (fun k hk => by have h1 := hk.1; rw [HW1.out] at h1; omega))⟩
  exact HQ5.out.toV HROW.out (fun k hk => by
   rcases hk with hk | hk
   ·have h1 := hk.1; rw [HW1.out] at h1; omega
   ·have := HB3.out.size; omega)


end Go.Proofs.Ytlpbolkbdcgmnaa.XH
-- squeezed
