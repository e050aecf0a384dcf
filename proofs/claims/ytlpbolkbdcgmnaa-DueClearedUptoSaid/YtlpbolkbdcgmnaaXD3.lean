-- by px.py, a program of this session, over the kit's printer: functions given by hand stand beside printed ones. Lean checks all of it.
import Derived.Test.YtlpbolkbdcgmnaaXD0
import Derived.Test.YtlpbolkbdcgmnaaXD2
import Derived.Test.YtlpbolkbdcgmnaaGTrow
import Derived.Test.YtlpbolkbdcgmnaaQHeapP
import Derived.BigRegion
import Derived.BigQuiet
import Derived.Test.YtlpbolkbdcgmnaaWGuard
import Derived.Deep.DeepCutAuto
import Derived.Deep.CutBlock
import Derived.BigRegion
import Derived.Test.YtlpbolkbdcgmnaaGIdx
import Derived.Test.YtlpbolkbdcgmnaaGLayT
import Derived.Deep.DeepCutAuto
import Derived.Deep.CutBlock
namespace Go.Proofs.Ytlpbolkbdcgmnaa.XD
open Go.RowKit Go.Proofs.YtlpbolkbdcgmnaaW.PrintWords Go.Proofs.YtlpbolkbdcgmnaaW.PrintLast Go.Proofs.YtlpbolkbdcgmnaaW.PrintMore
attribute [local go_sem] max2_int min2_int max_two min_two max_three min_three max_four min_four   -- for this text's walks alone
set_option linter.unusedVariables false
set_option linter.unusedSimpArgs false

-- PXIMPORT YtlpbolkbdcgmnaaGTrow
-- PXIMPORT YtlpbolkbdcgmnaaQHeapP
-- PXIMPORT Derived.BigRegion
-- PXIMPORT Derived.BigQuiet
-- PXIMPORT YtlpbolkbdcgmnaaWGuard
/-! ### heap_Queue_down: function 45, by hand -/
def tm_enc (x : S29) : List Value := [.int .i64 x.f0, .int .i64 x.f1, .int .u8 x.f2, .int .i64 x.f3]
def tm_lt (a b : S29) : Bool := decide (a.f0 < b.f0 ∨ a.f0 = b.f0 ∧ a.f1 < b.f1)
def tm_cf (a b : S29) : Int := if a.f0 < b.f0 then -1 else if b.f0 < a.f0 then 1 else if a.f1 < b.f1 then -1 else if b.f1 < a.f1 then 1 else 0
theorem tm_cf_lt (a b : S29) : decide (tm_cf a b < 0) = tm_lt a b := by
 unfold tm_cf tm_lt
 rw [Bool.eq_iff_iff]
 simp only [decide_eq_true_eq]
 by_cases h1 : a.f0 < b.f0
 ·rw [if_pos h1]; constructor <;> intro _ <;> omega
 ·rw [if_neg h1]
  by_cases h2 : b.f0 < a.f0
  ·rw [if_pos h2]; constructor <;> intro _ <;> omega
  ·rw [if_neg h2]
   by_cases h3 : a.f1 < b.f1
   ·rw [if_pos h3]; constructor <;> intro _ <;> omega
   ·rw [if_neg h3]
    by_cases h4 : b.f1 < a.f1
    ·rw [if_pos h4]; constructor <;> intro _ <;> omega
    ·rw [if_neg h4]; constructor <;> intro _ <;> omega
theorem tm_cf_neg (a b : S29) : tm_cf b a = - tm_cf a b := by
 unfold tm_cf
 repeat' split
 all_goals omega
theorem tm_swo : Hp.Swo tm_lt where
 irr a := by unfold tm_lt; simp
 tr a b c h1 h2 := by unfold tm_lt at *; simp only [decide_eq_true_eq] at *; omega
 co a b c h := by unfold tm_lt at *; simp only [decide_eq_true_eq] at *; omega
theorem tm_order_f (a b : S29) : heap_order.f 3 a.f0 a.f1 a.f2 a.f3 b.f0 b.f1 b.f2 b.f3 = some (tm_cf a b) := by
 have hn : ∀ x, cmp_isNaN_int64.f x = some false := fun x => by unfold cmp_isNaN_int64.f; simp
 have hc : ∀ x y, cmp_Compare_int64.f x y = some (if x < y then -1 else if y < x then 1 else 0) := fun x y => by
  unfold cmp_Compare_int64.f
  rw [hn, hn]
  simp only [Option.bind_some]
  by_cases h1 : x < y
  ·simp [h1]
  ·by_cases h2 : y < x <;> simp [h1, h2]
 unfold heap_order.f
 rw [hc, hc]
 simp only [Option.bind_some]
 unfold cmp_Or_int.f tm_cf
 by_cases h1 : a.f0 < b.f0
 ·rw [if_pos h1, if_pos h1]; simp [cmp_Or_int.l0, rd]
 ·rw [if_neg h1, if_neg h1]
  by_cases h2 : b.f0 < a.f0
  ·rw [if_pos h2, if_pos h2]; simp [cmp_Or_int.l0, rd]
  ·rw [if_neg h2, if_neg h2]
   by_cases h3 : a.f1 < b.f1
   ·rw [if_pos h3]; simp [cmp_Or_int.l0, rd, wrap64]
   ·rw [if_neg h3]
    by_cases h4 : b.f1 < a.f1
    ·rw [if_pos h4]; simp [cmp_Or_int.l0, rd, wrap64]
    ·rw [if_neg h4]; simp [cmp_Or_int.l0, rd, wrap64]
theorem tm_order (a b : S29) (w : World) : Calls Try.prog 53 #[.agg #[.int .i64 a.f0, .int .i64 a.f1, .int .u8 a.f2, .int .i64 a.f3], .agg #[.int .i64 b.f0, .int .i64 b.f1, .int .u8 b.f2, .int .i64 b.f3]] w fun e w' => e = .returned (.int .i64 (tm_cf a b)) ∧ Below w.heap.size w w' :=
 heap_order.calls 3 _ _ _ _ _ _ _ _ _ w (tm_order_f a b)
/-- The heap at work: its block g, and its timers; what it may write lies in P. -/
def HQ (P : Nat → Prop) (g : Nat) (w : World) (l : List S29) : Prop := P g ∧ ∃ v, w.heap[g]? = some (.cells #[v] 62 (0, 0)) ∧ (∀ k, v.ownBlock = some k → P k) ∧ TRow tm_enc 4 29 w v l
theorem HQ.mono {P S : Nat → Prop} {g : Nat} {w : World} {l : List S29} (h : HQ P g w l) (hs : ∀ k, P k → S k) : HQ S g w l := by
 obtain ⟨h1, v, h2, h3, h4⟩ := h
 exact ⟨hs g h1, v, h2, fun k hk => hs k (h3 k hk), h4⟩
theorem HQ.below {P : Nat → Prop} {g : Nat} {w w' : World} {l : List S29} (h : HQ P g w l) (hb : Below w.heap.size w w') : HQ P g w' l := by
 obtain ⟨h1, v, h2, h3, h4⟩ := h
 exact ⟨h1, v, (hb.block g (blk_lt h2)).trans h2, h3, h4.moved (fun k hk => hb.block k (h4.lt k hk))⟩
theorem HQ.row {P : Nat → Prop} {g : Nat} {w : World} {l : List S29} (h : HQ P g w l) (hl : 0 < l.length) : ∃ b cap, P g ∧ P b ∧ g ≠ b ∧ l.length ≤ cap ∧ cap ≤ 9223372036854775807 ∧ w.heap[g]? = some (.cells #[.slice (some ⟨b, 0, none⟩) l.length cap] 62 (0, 0)) ∧ TRow tm_enc 4 29 w (.slice (some ⟨b, 0, none⟩) l.length cap) l := by
 obtain ⟨h1, v, h2, h3, h4⟩ := h
 obtain ⟨b, cap, cur, rfl, hb, hx⟩ := h4.form hl
 refine ⟨b, cap, h1, h3 b (by simp [Value.ownBlock]), fun e => ?_, hx.1, by have := hx.2.1; simp only [maxLen] at this; omega, h2, h4⟩
 subst e
 rw [h2] at hb
 cases hb
theorem tm_at {w : World} {b cap : Nat} {l : List S29} (h : TRow tm_enc 4 29 w (.slice (some ⟨b, 0, none⟩) l.length cap) l) (i : Nat) (hi : i < l.length) :
  w.cell? ⟨b, i * 4, none⟩ = some (.int .i64 (Hp.g z29 l i).f0) ∧ w.cell? ⟨b, i * 4 + 1, none⟩ = some (.int .i64 (Hp.g z29 l i).f1) ∧ w.cell? ⟨b, i * 4 + 2, none⟩ = some (.int .u8 (Hp.g z29 l i).f2) ∧ w.cell? ⟨b, i * 4 + 3, none⟩ = some (.int .i64 (Hp.g z29 l i).f3) := by
 have hg : l[i]? = some (Hp.g z29 l i) := by rw [Hp.g_eq _ _ _ hi, List.getElem?_eq_getElem hi]
 exact ⟨h.cell hg (t := 0) rfl, h.cell hg (t := 1) rfl, h.cell hg (t := 2) rfl, h.cell hg (t := 3) rfl⟩
theorem HQ.swapped {P : Nat → Prop} {g b cap : Nat} {w : World} {l : List S29} {i j : Nat} (hg : P g) (hb : P b) (hne : g ≠ b) (h2 : w.heap[g]? = some (.cells #[.slice (some ⟨b, 0, none⟩) l.length cap] 62 (0, 0))) (h4 : TRow tm_enc 4 29 w (.slice (some ⟨b, 0, none⟩) l.length cap) l) (hi : i < l.length) (hj : j < l.length) :
  HQ P g ((w.setCells b (i * 4) (tm_enc (Hp.g z29 l j))).setCells b (j * 4) (tm_enc (Hp.g z29 l i))) (Hp.swap z29 l i j) := by
 have t1 := h4.set (fun _ => rfl) hi (Hp.g z29 l j)
 have hl : (l.set i (Hp.g z29 l j)).length = l.length := List.length_set
 rw [← hl] at t1
 have t2 := t1.set (fun _ => rfl) (i := j) (by rw [hl]; exact hj) (Hp.g z29 l i)
 rw [hl] at t2
 refine ⟨hg, _, ?_, fun k hk => ?_, t2⟩
 ·rw [setCells_far _ _ g hne, setCells_far _ _ g hne]; exact h2
 ·simp [Value.ownBlock] at hk; subst hk; exact hb
theorem tm_sets (w : World) (b o : Nat) (x : S29) : (((w.setCell ⟨b, o, none⟩ (.int .i64 x.f0)).setCell ⟨b, o + 1, none⟩ (.int .i64 x.f1)).setCell ⟨b, o + 2, none⟩ (.int .u8 x.f2)).setCell ⟨b, o + 3, none⟩ (.int .i64 x.f3) = w.setCells b o (tm_enc x) := by
 simp only [tm_enc, World.setCells]
theorem HQ.drew {P : Nat → Prop} {g : Nat} {w : World} {l : List S29} (h : HQ P g w l) : HQ P g w.drew l := h
theorem queue_swapped {P : Nat → Prop} {g b cap : Nat} {w0 w : World} {l : List S29} {i j : Nat} {x y : S29} (hg : P g) (hb : P b) (hne : g ≠ b) (h2 : w.heap[g]? = some (.cells #[.slice (some ⟨b, 0, none⟩) l.length cap] 62 (0, 0))) (h4 : TRow tm_enc 4 29 w (.slice (some ⟨b, 0, none⟩) l.length cap) l) (hi : i < l.length) (hj : j < l.length) (hx : Hp.g z29 l i = x) (hy : Hp.g z29 l j = y) (hm : Mv P w0 w) :
  ∃ w4, w4 = ((((((((w.setCell ⟨b, i * 4, none⟩ (.int .i64 y.f0)).setCell ⟨b, i * 4 + 1, none⟩ (.int .i64 y.f1)).setCell ⟨b, i * 4 + 2, none⟩ (.int .u8 y.f2)).setCell ⟨b, i * 4 + 3, none⟩ (.int .i64 y.f3)).setCell ⟨b, j * 4, none⟩ (.int .i64 x.f0)).setCell ⟨b, j * 4 + 1, none⟩ (.int .i64 x.f1)).setCell ⟨b, j * 4 + 2, none⟩ (.int .u8 x.f2)).setCell ⟨b, j * 4 + 3, none⟩ (.int .i64 x.f3)).drew ∧ HQ P g w4 (Hp.swap z29 l i j) ∧ Mv P w0 w4 := by
 subst hx hy
 refine ⟨_, rfl, ?_⟩
 rw [tm_sets, tm_sets]
 exact ⟨(HQ.swapped hg hb hne h2 h4 hi hj).drew, ((hm.sets (.inl hb) _ _).sets (.inl hb) _ _).drew⟩
theorem hp_down_stop (m : Nat) (xs : List S29) (i : Nat) (h : 2 * i + 1 ≥ xs.length) : Hp.down z29 tm_lt m xs i = xs := by
 cases m with
 | zero => rfl
 | succ m => simp only [Hp.down]; rw [if_pos h]
theorem hp_down_go (m : Nat) (xs : List S29) (i k : Nat) (h : 2 * i + 1 < xs.length) (hm : 0 < m) (hk : Hp.kid z29 tm_lt xs i = k) : Hp.down z29 tm_lt m xs i = if tm_lt (Hp.g z29 xs k) (Hp.g z29 xs i) = true then Hp.down z29 tm_lt (m - 1) (Hp.swap z29 xs i k) k else xs := by
 obtain ⟨m', rfl⟩ : ∃ m', m = m' + 1 := ⟨m - 1, by omega⟩
 simp only [Hp.down, Nat.add_sub_cancel]
 rw [if_neg (by omega), hk]
set_option maxHeartbeats 8000000 in
set_option maxRecDepth 100000 in
theorem queue_down (P : Nat → Prop) (g : Nat) (l : List S29) (i : Nat) (w : World) (hi : i < l.length) (hL : l.length ≤ 4398046511104) (hq : HQ P g w l) :
  Calls Try.prog 45 #[.pointer (some ⟨g, 0, none⟩), .int .i64 i] w fun e w' => e = .returned (.tuple #[]) ∧ HQ P g w' (Hp.down z29 tm_lt l.length l i) ∧ Mv P w w' := by
 have HQ0 := Lib.hid hq; clear hq
 have HM := Lib.hid (Mv.refl P w)
 have hu := Try.underlying29
 have mixed : Try.prog.follows Departure.mixedOrders = true := by kernel_rfl
 go_enter Try.func45, Try.ntmps45
 go_wp2
 go_loopw [1, 4] (fun v1 v4 wr => ∃ (j m : Nat) (l' : List S29), v1 = .int .i64 j ∧ j < l'.length ∧ l'.length ≤ m + j ∧ l'.length = l.length ∧ Hid (HQ P g wr l') ∧ Hid (Mv P w wr) ∧ Hid (Hp.down z29 tm_lt l.length l i = Hp.down z29 tm_lt m l' j)) (fun v1 _ _ => l.length - (intOf v1).toNat)
 case atStart => exact ⟨i, l.length, l, rfl, hi, by omega, rfl, HQ0, HM, Lib.hid rfl⟩
 case round =>
  clear HQ0 HM
  obtain ⟨j, m, l', rfl, hj, hjm, hll, HQ1, HM, HE⟩ := hrel
  obtain ⟨b, cap, hPg, hPb, hne, hlc, hcm, hrow, htr⟩ := HQ1.out.row (by omega)
  have hc := blk_cell hrow 0
  simp only [List.getElem?_toArray, List.getElem?_cons_zero] at hc
  have HTR := Lib.hid htr
  have HROW := Lib.hid hrow
  have HLL := Lib.hid hll
  have hL2 : l'.length ≤ 4398046511104 := by omega
  have q0 : (0 : Int) ≤ (j : Int) := by omega
  have q1 : (j : Int) < (l'.length : Int) := by omega
  clear hrow htr hll
  by_cases c1 : 2 * j + 1 < l'.length
  rotate_left
  ·have HE2 := Lib.hid (HE.out.trans (hp_down_stop m l' j (by omega)))
   have d1 : decide ((l'.length : Int) ≤ 2 * (j : Int) + 1) = true := decide_eq_true (by omega)
   have d2 : ((l'.length : Int) ≤ 2 * (j : Int) + 1) := by omega
   clear HE
   go_wp2
   first | go_end0 | ((try simp only [Exit.inBlock, Exit.then]); refine bodyPost_end (results_none rfl _ _ _) rfl ?_) | ((try simp only [Exit.inBlock, Exit.then]); refine bodyPost_ret (results_none rfl _ _ _) rfl ?_)
   rw [HE2.out]
   exact ⟨rfl, HQ1.out, HM.out⟩
  ·have d1 : decide ((l'.length : Int) ≤ 2 * (j : Int) + 1) = false := decide_eq_false (by omega)
   have d2 : ¬ ((l'.length : Int) ≤ 2 * (j : Int) + 1) := by omega
   obtain ⟨k, hk⟩ : ∃ k, k = 2 * j + 1 := ⟨_, rfl⟩
   have hki : 2 * (j : Int) + 1 = (k : Int) := by omega
   have HK := Lib.hid hk; clear hk
   have hkl : k < l'.length := by have := HK.out; omega
   obtain ⟨ck0, ck1, ck2, ck3⟩ := tm_at HTR.out k hkl
   have q2 : (0 : Int) ≤ (k : Int) := by omega
   have q3 : (k : Int) < (l'.length : Int) := by omega
   generalize hy : Hp.g z29 l' k = y at ck0 ck1 ck2 ck3
   have HY := Lib.hid hy; clear hy
   have hki2 : (k : Int) ≤ 9223372036854775000 := by omega
   by_cases c2 : k + 1 < l'.length
   ·obtain ⟨cz0, cz1, cz2, cz3⟩ := tm_at HTR.out (k + 1) c2
    generalize hz : Hp.g z29 l' (k + 1) = z at cz0 cz1 cz2 cz3
    have HZ := Lib.hid hz; clear hz
    have q4 : (0 : Int) ≤ (k : Int) + 1 := by omega
    have q5 : (k : Int) + 1 < (l'.length : Int) := by omega
    have e1 : ((k : Int) + 1).toNat = k + 1 := by omega
    have hz' : ∀ W, Calls Try.prog 53 #[.agg #[.int .i64 z.f0, .int .i64 z.f1, .int .u8 z.f2, .int .i64 z.f3], .agg #[.int .i64 y.f0, .int .i64 y.f1, .int .u8 y.f2, .int .i64 y.f3]] W fun e w' => e = .returned (.int .i64 (tm_cf z y)) ∧ Below W.heap.size W w' := fun W => tm_order z y W
    have hcf := tm_cf_lt z y
    generalize tm_cf z y = r at hz' hcf
    have HCF := Lib.hid hcf; clear hcf
    by_cases hr : r < 0
    ·have hkid : Hid (Hp.kid z29 tm_lt l' j = k + 1) := Lib.hid (by
      unfold Hp.kid
      have := HK.out
      rw [show 2 * j + 2 = k + 1 by omega, show 2 * j + 1 = k by omega, HZ.out, HY.out, if_pos ⟨c2, by rw [← HCF.out]; exact decide_eq_true hr⟩])
     have dr : decide (r < 0) = true := decide_eq_true hr
     go_wp2_with fail
     have d3 : decide ((k : Int) + 1 < (l'.length : Int)) = true := decide_eq_true (by omega)
     have hw1 : IntKind.i64.wrap ((k : Int) + 1) = (k : Int) + 1 := by rw [IntKind.wrap_i64]; omega
     refine wp_region_still_tail 24 (by kernel_rfl) (by kernel_rfl) ?_
     simp only [List.take_succ_cons, List.take_zero, List.drop_succ_cons, List.drop_zero]
     repeat (first | still_step | (refine wpStill_step (fun K hK => ?_); rw [if_pos (by rfl)]; go_simp; refine hK _ ?_; clear hK K))
     refine wpStill_nil ?_
     clear hw1 d3
     change wpList _ _ _ _ _ wr.drew
     refine gate_guard (by rfl) ?_
     go_wp2_with (go_at_call 53; refine (hz' _).mono ?_; rintro e w3 ⟨rfl, hb3⟩)
     have HTR3 := Lib.hid (HTR.out.moved (w' := w3) (fun k hk => hb3.block k (HTR.out.lt k hk)))
     have HROW3 := Lib.hid ((hb3.block g (blk_lt (HROW.out))).trans HROW.out)
     have HM3 := Lib.hid (HM.out.drew.below hb3)
     have HQ3 := Lib.hid (HQ1.out.below (w' := w3) ⟨hb3.os, hb3.tape, hb3.output, hb3.size, hb3.block⟩)
     clear hb3 HTR HROW ck0 ck1 ck2 ck3 cz0 cz1 cz2 cz3 hz' hc

     obtain ⟨cj0, cj1, cj2, cj3⟩ := tm_at HTR3.out j hj
     generalize hx : Hp.g z29 l' j = x at cj0 cj1 cj2 cj3
     have HX := Lib.hid hx; clear hx
     obtain ⟨cv0, cv1, cv2, cv3⟩ := tm_at HTR3.out (k + 1) c2
     rw [HZ.out] at cv0 cv1 cv2 cv3
     have hc := blk_cell HROW3.out 0
     simp only [List.getElem?_toArray, List.getElem?_cons_zero] at hc
     have fj := HTR3.out.frozen
     have HC2 : ∀ W, Calls Try.prog 53 #[.agg #[.int .i64 x.f0, .int .i64 x.f1, .int .u8 x.f2, .int .i64 x.f3], .agg #[.int .i64 z.f0, .int .i64 z.f1, .int .u8 z.f2, .int .i64 z.f3]] W fun e w' => e = .returned (.int .i64 (tm_cf x z)) ∧ Below W.heap.size W w' := fun W => tm_order x z W
     have hcf2 := tm_cf_lt z x
     rw [tm_cf_neg] at hcf2
     generalize tm_cf x z = r2 at HC2 hcf2
     have HCF2 := Lib.hid hcf2; clear hcf2
     have HE2 := Lib.hid (HE.out.trans (hp_down_go m l' j (k + 1) c1 (by omega) hkid.out))
     rw [HZ.out, HX.out] at HE2
     clear HE hkid HM HQ1
     go_wp2_with fail
     go_still_tail 14, (by kernel_rfl)
     change wpList _ _ _ _ _ w3.drew
     by_cases hr2 : r2 ≤ 0
     ·have dr2 : decide (r2 ≤ 0) = true := decide_eq_true hr2
      go_wp2_with (go_at_call 53; refine (HC2 _).mono ?_; rintro e w5 ⟨rfl, hb5⟩)
      first | go_end0 | ((try simp only [Exit.inBlock, Exit.then]); refine bodyPost_end (results_none rfl _ _ _) rfl ?_) | ((try simp only [Exit.inBlock, Exit.then]); refine bodyPost_ret (results_none rfl _ _ _) rfl ?_)
      rw [HE2.out, if_neg (by rw [← HCF2.out]; simp; omega)]
      exact ⟨rfl, HQ3.out.below (w' := w5) ⟨hb5.os, hb5.tape, hb5.output, hb5.size, hb5.block⟩, HM3.out.drew.below hb5⟩
     ·have dr2 : decide (r2 ≤ 0) = false := decide_eq_false hr2
      have hr3 : 0 < r2 := by omega
      go_wp2_with (go_at_call 53; refine (HC2 _).mono ?_; rintro e w5 ⟨rfl, hb5⟩)
      have HTR5 := Lib.hid (HTR3.out.moved (w' := w5) (fun k hk => hb5.block k (HTR3.out.lt k hk)))
      have HROW5 := Lib.hid ((hb5.block g (blk_lt (HROW3.out))).trans HROW3.out)
      have HM5 := Lib.hid (HM3.out.drew.below hb5)
      clear hb5 HTR3 HROW3 HM3 HQ3 cj0 cj1 cj2 cj3 cv0 cv1 cv2 cv3 hc fj
      obtain ⟨cj0, cj1, cj2, cj3⟩ := tm_at HTR5.out j hj
      obtain ⟨cv0, cv1, cv2, cv3⟩ := tm_at HTR5.out (k + 1) c2
      rw [HX.out] at cj0 cj1 cj2 cj3
      rw [HZ.out] at cv0 cv1 cv2 cv3
      have fj := HTR5.out.frozen
      have hc := blk_cell HROW5.out 0
      simp only [List.getElem?_toArray, List.getElem?_cons_zero] at hc
      go_big_region
      obtain ⟨w6, hw6, hq6, hm6⟩ := queue_swapped (i := j) (j := (k + 1)) hPg hPb hne HROW5.out HTR5.out hj c2 HX.out HZ.out HM5.out
      rw [← hw6]
      have HQ6 := Lib.hid hq6
      have HM6 := Lib.hid hm6
      clear hw6 hq6 hm6 cj0 cj1 cj2 cj3 cv0 cv1 cv2 cv3 fj hc HTR5 HROW5 HM5
      go_wp2
      have hsl := Hp.swap_len z29 l' j (k + 1)
      have hlt : tm_lt z x = true := by rw [← HCF2.out]; simp; omega
      have hkk := HK.out
      have hll := HLL.out
      go_roundw
      case rel => exact ⟨(k + 1), m - 1, _, by go_num, by rw [hsl]; exact c2, by rw [hsl]; omega, by rw [hsl]; exact HLL.out, HQ6, HM6, Lib.hid (by rw [HE2.out, if_pos hlt])⟩
      case measure => simp [intOf]; omega
    ·have hkid : Hid (Hp.kid z29 tm_lt l' j = k) := Lib.hid (by
      unfold Hp.kid
      have := HK.out
      rw [show 2 * j + 2 = k + 1 by omega, show 2 * j + 1 = k by omega, HZ.out, HY.out, if_neg (fun h => by have h2 := h.2; rw [← HCF.out] at h2; exact hr (of_decide_eq_true h2))])
     have dr : decide (r < 0) = false := decide_eq_false hr
     go_wp2_with fail
     have d3 : decide ((k : Int) + 1 < (l'.length : Int)) = true := decide_eq_true (by omega)
     have hw1 : IntKind.i64.wrap ((k : Int) + 1) = (k : Int) + 1 := by rw [IntKind.wrap_i64]; omega
     refine wp_region_still_tail 24 (by kernel_rfl) (by kernel_rfl) ?_
     simp only [List.take_succ_cons, List.take_zero, List.drop_succ_cons, List.drop_zero]
     repeat (first | still_step | (refine wpStill_step (fun K hK => ?_); rw [if_pos (by rfl)]; go_simp; refine hK _ ?_; clear hK K))
     refine wpStill_nil ?_
     clear hw1 d3
     change wpList _ _ _ _ _ wr.drew
     refine gate_guard (by rfl) ?_
     go_wp2_with (go_at_call 53; refine (hz' _).mono ?_; rintro e w3 ⟨rfl, hb3⟩)
     have HTR3 := Lib.hid (HTR.out.moved (w' := w3) (fun k hk => hb3.block k (HTR.out.lt k hk)))
     have HROW3 := Lib.hid ((hb3.block g (blk_lt (HROW.out))).trans HROW.out)
     have HM3 := Lib.hid (HM.out.drew.below hb3)
     have HQ3 := Lib.hid (HQ1.out.below (w' := w3) ⟨hb3.os, hb3.tape, hb3.output, hb3.size, hb3.block⟩)
     clear hb3 HTR HROW ck0 ck1 ck2 ck3 cz0 cz1 cz2 cz3 hz' hc

     obtain ⟨cj0, cj1, cj2, cj3⟩ := tm_at HTR3.out j hj
     generalize hx : Hp.g z29 l' j = x at cj0 cj1 cj2 cj3
     have HX := Lib.hid hx; clear hx
     obtain ⟨cv0, cv1, cv2, cv3⟩ := tm_at HTR3.out k hkl
     rw [HY.out] at cv0 cv1 cv2 cv3
     have hc := blk_cell HROW3.out 0
     simp only [List.getElem?_toArray, List.getElem?_cons_zero] at hc
     have fj := HTR3.out.frozen
     have HC2 : ∀ W, Calls Try.prog 53 #[.agg #[.int .i64 x.f0, .int .i64 x.f1, .int .u8 x.f2, .int .i64 x.f3], .agg #[.int .i64 y.f0, .int .i64 y.f1, .int .u8 y.f2, .int .i64 y.f3]] W fun e w' => e = .returned (.int .i64 (tm_cf x y)) ∧ Below W.heap.size W w' := fun W => tm_order x y W
     have hcf2 := tm_cf_lt y x
     rw [tm_cf_neg] at hcf2
     generalize tm_cf x y = r2 at HC2 hcf2
     have HCF2 := Lib.hid hcf2; clear hcf2
     have HE2 := Lib.hid (HE.out.trans (hp_down_go m l' j k c1 (by omega) hkid.out))
     rw [HY.out, HX.out] at HE2
     clear HE hkid HM HQ1
     go_wp2_with fail
     go_still_tail 14, (by kernel_rfl)
     change wpList _ _ _ _ _ w3.drew
     by_cases hr2 : r2 ≤ 0
     ·have dr2 : decide (r2 ≤ 0) = true := decide_eq_true hr2
      go_wp2_with (go_at_call 53; refine (HC2 _).mono ?_; rintro e w5 ⟨rfl, hb5⟩)
      first | go_end0 | ((try simp only [Exit.inBlock, Exit.then]); refine bodyPost_end (results_none rfl _ _ _) rfl ?_) | ((try simp only [Exit.inBlock, Exit.then]); refine bodyPost_ret (results_none rfl _ _ _) rfl ?_)
      rw [HE2.out, if_neg (by rw [← HCF2.out]; simp; omega)]
      exact ⟨rfl, HQ3.out.below (w' := w5) ⟨hb5.os, hb5.tape, hb5.output, hb5.size, hb5.block⟩, HM3.out.drew.below hb5⟩
     ·have dr2 : decide (r2 ≤ 0) = false := decide_eq_false hr2
      have hr3 : 0 < r2 := by omega
      go_wp2_with (go_at_call 53; refine (HC2 _).mono ?_; rintro e w5 ⟨rfl, hb5⟩)
      have HTR5 := Lib.hid (HTR3.out.moved (w' := w5) (fun k hk => hb5.block k (HTR3.out.lt k hk)))
      have HROW5 := Lib.hid ((hb5.block g (blk_lt (HROW3.out))).trans HROW3.out)
      have HM5 := Lib.hid (HM3.out.drew.below hb5)
      clear hb5 HTR3 HROW3 HM3 HQ3 cj0 cj1 cj2 cj3 cv0 cv1 cv2 cv3 hc fj
      obtain ⟨cj0, cj1, cj2, cj3⟩ := tm_at HTR5.out j hj
      obtain ⟨cv0, cv1, cv2, cv3⟩ := tm_at HTR5.out k hkl
      rw [HX.out] at cj0 cj1 cj2 cj3
      rw [HY.out] at cv0 cv1 cv2 cv3
      have fj := HTR5.out.frozen
      have hc := blk_cell HROW5.out 0
      simp only [List.getElem?_toArray, List.getElem?_cons_zero] at hc
      go_big_region
      obtain ⟨w6, hw6, hq6, hm6⟩ := queue_swapped (i := j) (j := k) hPg hPb hne HROW5.out HTR5.out hj hkl HX.out HY.out HM5.out
      rw [← hw6]
      have HQ6 := Lib.hid hq6
      have HM6 := Lib.hid hm6
      clear hw6 hq6 hm6 cj0 cj1 cj2 cj3 cv0 cv1 cv2 cv3 fj hc HTR5 HROW5 HM5
      go_wp2
      have hsl := Hp.swap_len z29 l' j k
      have hlt : tm_lt y x = true := by rw [← HCF2.out]; simp; omega
      have hkk := HK.out
      have hll := HLL.out
      go_roundw
      case rel => exact ⟨k, m - 1, _, by go_num, by rw [hsl]; exact hkl, by rw [hsl]; omega, by rw [hsl]; exact HLL.out, HQ6, HM6, Lib.hid (by rw [HE2.out, if_pos hlt])⟩
      case measure => simp [intOf]; omega
   ·have hkid : Hid (Hp.kid z29 tm_lt l' j = k) := Lib.hid (by
     unfold Hp.kid
     have := HK.out
     rw [show 2 * j + 2 = k + 1 by omega, show 2 * j + 1 = k by omega, if_neg (fun h => c2 h.1)])
    have d3 : decide ((k : Int) + 1 < (l'.length : Int)) = false := decide_eq_false (by omega)
    have d4 : ¬ ((k : Int) + 1 < (l'.length : Int)) := by omega
    go_wp2_with fail
    go_quiet (fail)
    clear d3 d4
    obtain ⟨w3, hw3⟩ : ∃ w3, w3 = wr.drewN nq := ⟨_, rfl⟩
    rw [← hw3]
    have HTR3 : Hid (TRow tm_enc 4 29 w3 (.slice (some ⟨b, 0, none⟩) l'.length cap) l') := Lib.hid (by rw [hw3]; exact HTR.out)
    have HROW3 : Hid (w3.heap[g]? = some (.cells #[.slice (some ⟨b, 0, none⟩) l'.length cap] 62 (0, 0))) := Lib.hid (by rw [hw3]; exact HROW.out)
    have HM3 : Hid (Mv P w w3) := Lib.hid (by rw [hw3]; exact HM.out.drewN _)
    have HQ3 : Hid (HQ P g w3 l') := Lib.hid (by rw [hw3]; exact HQ1.out)
    clear hw3 HTR HROW ck0 ck1 ck2 ck3 hc
    obtain ⟨cj0, cj1, cj2, cj3⟩ := tm_at HTR3.out j hj
    generalize hx : Hp.g z29 l' j = x at cj0 cj1 cj2 cj3
    have HX := Lib.hid hx; clear hx
    obtain ⟨cv0, cv1, cv2, cv3⟩ := tm_at HTR3.out k hkl
    rw [HY.out] at cv0 cv1 cv2 cv3
    have hc := blk_cell HROW3.out 0
    simp only [List.getElem?_toArray, List.getElem?_cons_zero] at hc
    have fj := HTR3.out.frozen
    have HC2 : ∀ W, Calls Try.prog 53 #[.agg #[.int .i64 x.f0, .int .i64 x.f1, .int .u8 x.f2, .int .i64 x.f3], .agg #[.int .i64 y.f0, .int .i64 y.f1, .int .u8 y.f2, .int .i64 y.f3]] W fun e w' => e = .returned (.int .i64 (tm_cf x y)) ∧ Below W.heap.size W w' := fun W => tm_order x y W
    have hcf2 := tm_cf_lt y x
    rw [tm_cf_neg] at hcf2
    generalize tm_cf x y = r2 at HC2 hcf2
    have HCF2 := Lib.hid hcf2; clear hcf2
    have HE2 := Lib.hid (HE.out.trans (hp_down_go m l' j k c1 (by omega) hkid.out))
    rw [HY.out, HX.out] at HE2
    clear HE hkid HM HQ1
    go_wp2_with fail
    go_still_tail 14, (by kernel_rfl)
    change wpList _ _ _ _ _ w3.drew
    by_cases hr2 : r2 ≤ 0
    ·have dr2 : decide (r2 ≤ 0) = true := decide_eq_true hr2
     go_wp2_with (go_at_call 53; refine (HC2 _).mono ?_; rintro e w5 ⟨rfl, hb5⟩)
     first | go_end0 | ((try simp only [Exit.inBlock, Exit.then]); refine bodyPost_end (results_none rfl _ _ _) rfl ?_) | ((try simp only [Exit.inBlock, Exit.then]); refine bodyPost_ret (results_none rfl _ _ _) rfl ?_)
     rw [HE2.out, if_neg (by rw [← HCF2.out]; simp; omega)]
     exact ⟨rfl, HQ3.out.below (w' := w5) ⟨hb5.os, hb5.tape, hb5.output, hb5.size, hb5.block⟩, HM3.out.drew.below hb5⟩
    ·have dr2 : decide (r2 ≤ 0) = false := decide_eq_false hr2
     have hr3 : 0 < r2 := by omega
     go_wp2_with (go_at_call 53; refine (HC2 _).mono ?_; rintro e w5 ⟨rfl, hb5⟩)
     have HTR5 := Lib.hid (HTR3.out.moved (w' := w5) (fun k hk => hb5.block k (HTR3.out.lt k hk)))
     have HROW5 := Lib.hid ((hb5.block g (blk_lt (HROW3.out))).trans HROW3.out)
     have HM5 := Lib.hid (HM3.out.drew.below hb5)
     clear hb5 HTR3 HROW3 HM3 HQ3 cj0 cj1 cj2 cj3 cv0 cv1 cv2 cv3 hc fj
     obtain ⟨cj0, cj1, cj2, cj3⟩ := tm_at HTR5.out j hj
     obtain ⟨cv0, cv1, cv2, cv3⟩ := tm_at HTR5.out k hkl
     rw [HX.out] at cj0 cj1 cj2 cj3
     rw [HY.out] at cv0 cv1 cv2 cv3
     have fj := HTR5.out.frozen
     have hc := blk_cell HROW5.out 0
     simp only [List.getElem?_toArray, List.getElem?_cons_zero] at hc
     go_big_region
     obtain ⟨w6, hw6, hq6, hm6⟩ := queue_swapped (i := j) (j := k) hPg hPb hne HROW5.out HTR5.out hj hkl HX.out HY.out HM5.out
     rw [← hw6]
     have HQ6 := Lib.hid hq6
     have HM6 := Lib.hid hm6
     clear hw6 hq6 hm6 cj0 cj1 cj2 cj3 cv0 cv1 cv2 cv3 fj hc HTR5 HROW5 HM5
     go_wp2
     have hsl := Hp.swap_len z29 l' j k
     have hlt : tm_lt y x = true := by rw [← HCF2.out]; simp; omega
     have hkk := HK.out
     have hll := HLL.out
     go_roundw
     case rel => exact ⟨k, m - 1, _, by go_num, by rw [hsl]; exact hkl, by rw [hsl]; omega, by rw [hsl]; exact HLL.out, HQ6, HM6, Lib.hid (by rw [HE2.out, if_pos hlt])⟩
     case measure => simp [intOf]; omega

-- PXIMPORT Derived.Deep.DeepCutAuto
-- PXIMPORT Derived.Deep.CutBlock
/-! ### heap_Make: function 14, by hand -/
theorem HQ.start {P : Nat → Prop} {B : Nat} {w : World} {v : Value} {l : List S29} {ok : Nat → Prop} (h : Kd.R k29 29 w B ok v l) (hB : B ≤ w.heap.size) (hP : ∀ k, B ≤ k → k < w.heap.size + 1 → P k) : HQ P w.heap.size (w.alloc (.cells #[v] 62)) l := by
 letI : Inhabited S29 := ⟨z29⟩
 have ht : TRow tm_enc 4 29 w v l := TRow.ofR (d := k29) (fun hp => k29_openM hp) rfl h
 have hb := below_alloc (Below.refl w.heap.size w) (.cells #[v] 62)
 exact ⟨hP _ hB (by omega), v, blk_new w _, fun k hk => hP k (Kd.R_base h k hk) (by have := ht.lt k hk; omega), ht.moved (fun k hk => hb.block k (ht.lt k hk))⟩
theorem HQ.toV {P : Nat → Prop} {g B : Nat} {w : World} {v : Value} {l : List S29} (h : HQ P g w l) (hv : w.heap[g]? = some (.cells #[v] 62 (0, 0))) (hP : ∀ k, P k → B ≤ k) : Kd.V k29 29 w B (fun k_ => (B ≤ k_)) v l := by
 obtain ⟨h1, u, h2, h3, h4⟩ := h
 obtain rfl : u = v := by rw [h2] at hv; cases hv; rfl
 exact h4.toV (d := k29) (fun w x => k29_mk w x) (fun _ => rfl) rfl B (fun k hk => hP k (h3 k hk))
def heap_Make.f (l0 : List (S29)) : Option (List (S29) × Int) := if l0.length < 4398046511104 then some (if (l0.map (·.f1)).Nodup then if 4096 < l0.length then ([], 8) else (Hp.heapify z29 tm_lt (l0.length / 2) l0, 0) else ([], 4)) else none
set_option maxHeartbeats 2000000 in
set_option maxRecDepth 100000 in
theorem heap_Make.calls (A0 : Option Addr) (c0 : Nat) (l0 : List (S29)) (r1 : List (S29)) (r2 : Int) (w : World) (hr0 : Kd.C k29 w A0 l0.length l0) (hc0 : l0.length ≤ c0) (h : heap_Make.f l0 = some (r1, r2)) :
  Calls Try.prog 14 #[.slice A0 l0.length c0] w fun e w' => ∃ v0_ : Value, e = .returned (.tuple #[v0_, .int .i64 r2]) ∧ Kd.V k29 29 w' w.heap.size (fun k_ => (w.heap.size ≤ k_)) v0_ r1 ∧ Below w.heap.size w w' := by
 have hu := Try.underlying62
 have HR0 := Lib.hid hr0; clear hr0
 unfold heap_Make.f at h
 split at h
 rotate_left
 ·cases h
 rename_i hlen
 have H := Option.some.inj h
 clear h
 have HU := heap_unique.calls A0 c0 l0 (decide (l0.map (·.f1)).Nodup) w HR0.out hc0 (by unfold heap_unique.f; rw [if_pos hlen])
 by_cases c1 : (l0.map (·.f1)).Nodup
 rotate_left
 ·rw [if_neg c1] at H
  cases H
  rw [decide_eq_false c1] at HU
  clear c1
  go_enter Try.func14, Try.ntmps14
  go_wp2_with (go_at_call 43; refine HU.mono ?_; rintro e w3 ⟨rfl, hb3⟩)
  go_ret2
  exact ⟨_, rfl, Kd.V_nil _ _ _ _ _, hb3⟩
 rw [if_pos c1] at H
 rw [decide_eq_true c1] at HU
 clear c1
 by_cases c2 : 4096 < l0.length
 ·rw [if_pos c2] at H
  cases H
  have d2 : decide (4096 < (l0.length : Int)) = true := decide_eq_true (by omega)
  have d3 : (4096 : Int) < (l0.length : Int) := by omega
  go_enter Try.func14, Try.ntmps14
  go_wp2_with (go_at_call 43; refine HU.mono ?_; rintro e w3 ⟨rfl, hb3⟩)
  go_ret2
  exact ⟨_, rfl, Kd.V_nil _ _ _ _ _, hb3⟩
 rw [if_neg c2] at H
 have d2 : decide (4096 < (l0.length : Int)) = false := decide_eq_false (by omega)
 have d3 : ¬ (4096 : Int) < (l0.length : Int) := by omega
 obtain ⟨rfl, rfl⟩ : r1 = _ ∧ r2 = _ := ⟨(congrArg Prod.fst H).symm, (congrArg Prod.snd H).symm⟩
 clear H
 simp only
 have hq1 : ((l0.length : Int) / 2) = ((l0.length / 2 : Nat) : Int) := by omega
 obtain ⟨m, hm⟩ : ∃ m, m = l0.length / 2 := ⟨_, rfl⟩
 rw [← hm] at hq1
 rw [← hm]
 have hml : m ≤ l0.length := by omega
 clear hm
 go_enter Try.func14, Try.ntmps14
 go_upto_block 1 with (first | (go_at_call 43; refine HU.mono ?_; rintro e w3 ⟨rfl, hb3⟩; have HB3 := Lib.hid hb3; clear hb3) | (go_at_call 44; refine (api_Timer_44.calls A0 c0 l0 l0 _ (Kd.C_below HR0.out HB3.out) hc0 (by unfold api_Timer_44.f; rw [if_pos hlen])).mono ?_; rintro e w4 ⟨v4, rfl, hr4, hb4⟩; obtain ⟨A4, c4, rfl, hl4, hC4⟩ := Kd.R_reads hr4; clear hC4; have HR4 := Lib.hid hr4; have HB4 := Lib.hid hb4; clear hr4 hb4))
 have hsz : w.heap.size ≤ w4.heap.size := Nat.le_trans HB3.out.size HB4.out.size
 have hq0 := HQ.start (P := fun k => w.heap.size ≤ k ∧ k < (w4.alloc (.cells #[.slice A4 l0.length c4] 62)).heap.size) HR4.out HB4.out.size (fun k hk hk2 => ⟨Nat.le_trans HB3.out.size hk, by simpa using hk2⟩)
 have hb0 := below_alloc (below_then HB3.out HB3.out.size HB4.out) (.cells #[.slice A4 l0.length c4] 62)
 obtain ⟨W0, hW0⟩ : ∃ W0, W0 = w4.alloc (.cells #[.slice A4 l0.length c4] 62) := ⟨_, rfl⟩
 rw [← hW0] at hq0 hb0 ⊢
 have HQ0 := Lib.hid hq0
 have HB0 := Lib.hid hb0
 clear hq0 hb0 hW0 HB3 HB4 HR4 HU d2 d3 c2
 obtain ⟨g, hg⟩ : ∃ g, g = w4.heap.size := ⟨_, rfl⟩
 rw [← hg] at HQ0 ⊢
 clear hg
 have HM0 := Lib.hid (Mv.refl (fun k => w.heap.size ≤ k ∧ k < W0.heap.size) W0)
 go_wp2
 go_loopw [5] (fun v5 wr => ∃ (j : Nat) (l' : List S29), v5 = .int .i64 ((j : Int) - 1) ∧ j ≤ m ∧ l'.length = l0.length ∧ Hid (HQ (fun k => w.heap.size ≤ k ∧ k < W0.heap.size) g wr l') ∧ Hid (Mv (fun k => w.heap.size ≤ k ∧ k < W0.heap.size) W0 wr) ∧ Hid (Hp.heapify z29 tm_lt m l0 = Hp.heapify z29 tm_lt j l')) (fun v5 _ => (intOf v5 + 1).toNat)
 case atStart => exact ⟨m, l0, rfl, Nat.le_refl _, rfl, HQ0, HM0, Lib.hid rfl⟩
 case round =>
  clear HQ0 HM0
  obtain ⟨j, l', rfl, hjm, hll, HQ1, HM1, HE⟩ := hrel
  by_cases hj : j = 0
  ·subst hj
   obtain ⟨hPg, v, hrow, hPv, htr⟩ := HQ1.out
   obtain ⟨A5, c5, rfl, hlc5⟩ := htr.slice
   have hc := blk_cell hrow 0
   simp only [List.getElem?_toArray, List.getElem?_cons_zero] at hc
   have HROW := Lib.hid hrow
   have e0 : ((0 : Nat) : Int) - 1 = -1 := by omega
   clear hrow hPv htr
   go_wp2
   go_ret2
   rw [hll] at HROW
   refine ⟨.slice A5 l0.length c5, rfl, ?_, HB0.out.trans (HM1.out.under HB0.out.size (fun k hk => hk.1))⟩
   rw [HE.out]
   exact HQ1.out.toV HROW.out (fun k hk => hk.1)
  ·obtain ⟨i, rfl⟩ : ∃ i, j = i + 1 := ⟨j - 1, by omega⟩
   have e1 : (((i + 1 : Nat) : Int) - 1) = (i : Int) := by omega
   rw [e1]
   have q0 : (0 : Int) ≤ (i : Int) := by omega
   have d0 : decide ((0 : Int) ≤ (i : Int)) = true := decide_eq_true q0
   have HD := queue_down _ g l' i wr (by omega) (by omega) HQ1.out
   go_wp2_with (go_at_call 45; refine HD.mono ?_; rintro e w6 ⟨rfl, hq6, hm6⟩; have HQ6 := Lib.hid hq6; have HM6 := Lib.hid hm6; clear hq6 hm6)
   go_roundw
   case rel => exact ⟨i, Hp.down z29 tm_lt l'.length l' i, by first | rfl | go_num, by omega, by rw [(Hp.down_both z29 tm_lt l'.length l' i (by omega)).1]; exact hll, HQ6, Lib.hid (HM1.out.then_ HM6.out (fun _ h => .inl h)), HE⟩
   case measure => simp [intOf]


-- PXIMPORT Derived.BigRegion
/-! ### heap_Queue_up: function 71, by hand -/
set_option maxHeartbeats 2000000 in
set_option maxRecDepth 100000 in
theorem queue_up (P : Nat → Prop) (g : Nat) (l : List S29) (i : Nat) (w : World) (hi : i < l.length) (hq : HQ P g w l) :
  Calls Try.prog 71 #[.pointer (some ⟨g, 0, none⟩), .int .i64 i] w fun e w' => e = .returned (.tuple #[]) ∧ HQ P g w' (Hp.up z29 tm_lt i l i) ∧ Mv P w w' := by
 have HQ0 := Lib.hid hq; clear hq
 have HM := Lib.hid (Mv.refl P w)
 have hu := Try.underlying29
 go_enter Try.func71, Try.ntmps71
 go_wp2
 go_loopw [1, 4] (fun v1 v4 wr => ∃ (j m : Nat) (l' : List S29), v1 = .int .i64 j ∧ j < l'.length ∧ j ≤ m ∧ Hid (HQ P g wr l') ∧ Hid (Mv P w wr) ∧ Hid (Hp.up z29 tm_lt i l i = Hp.up z29 tm_lt m l' j)) (fun v1 _ _ => (intOf v1).toNat)
 case atStart => exact ⟨i, i, l, rfl, hi, Nat.le_refl _, HQ0, HM, Lib.hid rfl⟩
 case round =>
  clear HQ0 HM
  obtain ⟨j, m, l', rfl, hj, hjm, HQ1, HM, HE⟩ := hrel
  obtain ⟨b, cap, hPg, hPb, hne, hlc, hcm, hrow, htr⟩ := HQ1.out.row (by omega)
  by_cases hj0 : j = 0
  ·subst hj0
   have hE : Hp.up z29 tm_lt m l' 0 = l' := by cases m <;> simp [Hp.up]
   have HE2 := Lib.hid (HE.out.trans hE)
   clear hE HE htr hrow
   go_wp2
   refine bodyPost_end (results_none rfl _ _ _) rfl ?_
   rw [HE2.out]
   exact ⟨rfl, HQ1.out, HM.out⟩
  ·obtain ⟨p, hp⟩ : ∃ p, p = (j - 1) / 2 := ⟨_, rfl⟩
   have hpj : p < j := by omega
   have hpi : ((j : Int) - 1) / 2 = (p : Int) := by omega
   have hpl : p < l'.length := by omega
   obtain ⟨cj0, cj1, cj2, cj3⟩ := tm_at htr j hj
   obtain ⟨cp0, cp1, cp2, cp3⟩ := tm_at htr p hpl
   have hc := blk_cell hrow 0
   have hf := blk_frozen hrow 0
   have HTR := Lib.hid htr
   have HROW := Lib.hid hrow
   have hHE : Hp.up z29 tm_lt m l' j = if tm_lt (Hp.g z29 l' j) (Hp.g z29 l' p) = true then Hp.up z29 tm_lt (m - 1) (Hp.swap z29 l' j p) p else l' := by
    obtain ⟨m', rfl⟩ : ∃ m', m = m' + 1 := ⟨m - 1, by omega⟩
    simp only [Hp.up, Nat.add_sub_cancel]
    rw [if_neg hj0, ← hp]
   have HE2 := Lib.hid (HE.out.trans hHE)
   have hq1 : (0 : Int) ≤ (j : Int) := by omega
   have hq2 : (j : Int) < (l'.length : Int) := by omega
   have hq3 : (0 : Int) ≤ (p : Int) := by omega
   have hq4 : (p : Int) < (l'.length : Int) := by omega
   have hq5 : (0 : Int) < (j : Int) := by omega
   have HP := Lib.hid hp
   clear hHE HE htr hrow hp
   generalize hx : Hp.g z29 l' j = x at cj0 cj1 cj2 cj3 HE2
   generalize hy : Hp.g z29 l' p = y at cp0 cp1 cp2 cp3 HE2
   have HX := Lib.hid hx; clear hx
   have HY := Lib.hid hy; clear hy
   simp only [List.getElem?_toArray, List.getElem?_cons_zero] at hc
   go_wp2_with fail
   go_still_tail 14, (by kernel_rfl)
   change wpList _ _ _ _ _ wr.drew
   have HC := fun W => tm_order x y W
   have hcf := tm_cf_lt x y
   generalize tm_cf x y = r at HC hcf
   have HCF := Lib.hid hcf; clear hcf
   clear cj0 cj1 cj2 cj3 cp0 cp1 cp2 cp3 hc hf
   by_cases hr : r < 0
   ·have hr2 : ¬ 0 ≤ r := by omega
    go_wp2_with (go_at_call 53; refine (HC _).mono ?_; rintro e w3 ⟨rfl, hb3⟩)
    have HTR3 := Lib.hid (HTR.out.moved (w' := w3) (fun k hk => hb3.block k (HTR.out.lt k hk)))
    have HROW3 := Lib.hid ((hb3.block g (blk_lt (HROW.out))).trans HROW.out)
    have HM3 := Lib.hid (HM.out.drew.below hb3)
    clear hb3 HTR HROW HM HQ1
    obtain ⟨cj0, cj1, cj2, cj3⟩ := tm_at HTR3.out j hj
    obtain ⟨cp0, cp1, cp2, cp3⟩ := tm_at HTR3.out p hpl
    rw [HX.out] at cj0 cj1 cj2 cj3
    rw [HY.out] at cp0 cp1 cp2 cp3
    have fj := HTR3.out.frozen
    have hc := blk_cell HROW3.out 0
    simp only [List.getElem?_toArray, List.getElem?_cons_zero] at hc
    go_big_region
    obtain ⟨w4, hw4, hq4, hm4⟩ := queue_swapped (i := j) (j := p) hPg hPb hne HROW3.out HTR3.out hj hpl HX.out HY.out HM3.out
    rw [← hw4]
    have HQ4 := Lib.hid hq4
    have HM4 := Lib.hid hm4
    clear hw4 hq4 hm4 cj0 cj1 cj2 cj3 cp0 cp1 cp2 cp3 fj hc HTR3 HROW3 HM3
    go_wp2
    have hlt : tm_lt x y = true := by rw [← HCF.out]; exact decide_eq_true hr
    have hsl := Hp.swap_len z29 l' j p
    go_roundw
    case rel => exact ⟨p, m - 1, _, rfl, by rw [hsl]; exact hpl, by omega, HQ4, HM4, Lib.hid (by rw [HE2.out, if_pos hlt])⟩
    case measure => simp [intOf]; omega
   ·have hr2 : 0 ≤ r := by omega
    go_wp2_with (go_at_call 53; refine (HC _).mono ?_; rintro e w3 ⟨rfl, hb3⟩)
    first | go_end0 | ((try simp only [Exit.inBlock, Exit.then]); refine bodyPost_end (results_none rfl _ _ _) rfl ?_) | ((try simp only [Exit.inBlock, Exit.then]); refine bodyPost_ret (results_none rfl _ _ _) rfl ?_)
    have hlt : tm_lt x y = false := by rw [← HCF.out]; exact decide_eq_false (by omega)
    rw [HE2.out, if_neg (by rw [hlt]; decide)]
    exact ⟨rfl, HQ1.out.below (w' := w3) ⟨hb3.os, hb3.tape, hb3.output, hb3.size, hb3.block⟩, HM.out.drew.below hb3⟩

-- NOT PRINTED: function 73 (api_Timer_73)

-- PXIMPORT YtlpbolkbdcgmnaaGIdx
-- PXIMPORT YtlpbolkbdcgmnaaGLayT
/-! ### heap_Queue_find: function 64, by hand -/
def hp_is (seq : Int) (x : S29) : Bool := x.f1 == seq
/-- Where a Seq is; -1: nowhere. -/
def hp_find (seq : Int) (l : List S29) : Int := @Lib.idxBy S29 (fun _ y => hp_is seq y) l z29
set_option maxHeartbeats 400000 in
set_option maxRecDepth 100000 in
theorem hp_find1 (x : S29) (seq : Int) (g : Nat) (W : World) (hg : g < W.heap.size) (hc : W.cell? ⟨g, 0, none⟩ = some (.int .i64 seq)) :
  Calls Try.prog 76 #[.agg #[.int .i64 x.f0, .int .i64 x.f1, .int .u8 x.f2, .int .i64 x.f3], .pointer (some ⟨g, 0, none⟩)] W fun e w' => e = .returned (.bool (hp_is seq x)) ∧ Below W.heap.size W w' := by
 have hb := (Below.refl W.heap.size W)
 have hne : g ≠ W.heap.size := by omega
 have hu := Try.underlying29
 unfold hp_is
 go_enter Try.func76, Try.ntmps76
 go_wp2
 all_goals (go_ret; exact ⟨by first | rfl | (simp_all; done) | (simp_all; omega), hb.alloc hb.size _⟩)
theorem tm_readsK {w : World} {A : Option Addr} {n c : Nat} {l : List S29} (h : TRow tm_enc 4 29 w (.slice A n c) l) : Kd.C k29 w A l.length l :=
 TRow.reads (d := k29) (fun w x => k29_mk w x) (fun _ => rfl) rfl h
set_option maxHeartbeats 400000 in
set_option maxRecDepth 100000 in
theorem queue_find (P : Nat → Prop) (g : Nat) (l : List S29) (seq : Int) (w : World) (hq : HQ P g w l) :
  Calls Try.prog 64 #[.pointer (some ⟨g, 0, none⟩), .int .i64 seq] w fun e w' => e = .returned (.int .i64 (hp_find seq l)) ∧ Below w.heap.size w w' := by
 letI : Inhabited S29 := ⟨z29⟩
 obtain ⟨hPg, v, hrow, hPv, htr⟩ := hq
 obtain ⟨A, c, rfl, hlc⟩ := htr.slice
 have hgw : g < w.heap.size := blk_lt hrow
 have hc := blk_cell hrow 0
 simp only [List.getElem?_toArray, List.getElem?_cons_zero] at hc
 have hne : g ≠ w.heap.size := by omega
 have eg : ∀ args w, (callFunc 76 args).run Try.prog w = .ok (.enter 76 args) w := enters_of Try.func76 (by kernel_rfl) rfl
 have hmf : ∀ (fn : Fn) (first cap : Array Value) (w : World), (Instr.makeFunc fn first cap).run Try.prog w = .ok (.func fn first cap) w := fun _ _ _ _ => rfl
 have hb := below_alloc (Below.refl w.heap.size w) (.cells #[.int .i64 seq] 2)
 have HC := gi_index (d := k29) (enc := tm_enc) Try.lay_tidx Try.isAgg29 Try.sizeOf29 (fun _ => rfl) (fun h => k29_open h) (by decide) (hp_is seq) 76 #[.pointer (some ⟨w.heap.size, 0, none⟩)] eg A c l (w.alloc (.cells #[.int .i64 seq] 2)) (Kd.C_below (tm_readsK htr) (below_alloc (Below.refl _ _) _))
  (fun W x hbw => (hp_find1 x seq w.heap.size W (Nat.lt_of_lt_of_le (by simp) hbw.size) ((hbw.cell (p := ⟨w.heap.size, 0, none⟩) (by simp)).trans (by simp))).mono (fun e w' ⟨he, hb'⟩ => ⟨he, below_then hbw hbw.size hb'⟩))
 change Calls Try.prog 73 _ _ _ at HC
 unfold hp_find
 change Calls _ _ _ _ (fun e w_ => e = .returned (.int .i64 (@Lib.idxBy S29 (fun _ y => hp_is seq y) l z29)) ∧ _) at HC
 generalize @Lib.idxBy S29 (fun _ y => hp_is seq y) l z29 = r at HC ⊢
 have HB := Lib.hid hb; clear hb htr
 go_enter Try.func64, Try.ntmps64
 go_wp2_with (go_at_call 73; refine HC.mono ?_; rintro e w3 ⟨rfl, hb3⟩)
 go_ret
 exact ⟨rfl, below_then HB.out HB.out.size hb3⟩

-- PXIMPORT Derived.Deep.DeepCutAuto
-- PXIMPORT Derived.Deep.CutBlock
/-! ### heap_Queue_take: function 65, by hand -/
theorem HQ.set {P : Nat → Prop} {g : Nat} {w : World} {l : List S29} (h : HQ P g w l) {p : Addr} (hn : ¬ P p.block) (v : Value) : HQ P g (w.setCell p v) l := by
 obtain ⟨h1, u, h2, h3, h4⟩ := h
 exact ⟨h1, u, (Below.heap_setCell w p v g (fun e => hn (e ▸ h1))).trans h2, h3, h4.moved (fun k hk => Below.heap_setCell w p v k (fun e => hn (e ▸ h3 k hk)))⟩
theorem HQ.set4 {P : Nat → Prop} {g s : Nat} {w0 w : World} {l : List S29} (h : HQ P g w l) (hm : Mv P w0 w) (hn : ¬ P s) (hs : w0.heap.size ≤ s) (a b c d : Value) :
  HQ P g ((((w.setCell ⟨s, 0, none⟩ a).setCell ⟨s, 1, none⟩ b).setCell ⟨s, 2, none⟩ c).setCell ⟨s, 3, none⟩ d) l ∧ Mv P w0 ((((w.setCell ⟨s, 0, none⟩ a).setCell ⟨s, 1, none⟩ b).setCell ⟨s, 2, none⟩ c).setCell ⟨s, 3, none⟩ d) :=
 ⟨(((h.set (p := ⟨s, 0, none⟩) hn _).set (p := ⟨s, 1, none⟩) hn _).set (p := ⟨s, 2, none⟩) hn _).set (p := ⟨s, 3, none⟩) hn _, (((hm.set (p := ⟨s, 0, none⟩) (.inr hs) _).set (p := ⟨s, 1, none⟩) (.inr hs) _).set (p := ⟨s, 2, none⟩) (.inr hs) _).set (p := ⟨s, 3, none⟩) (.inr hs) _⟩
theorem HQ.cutAt {P : Nat → Prop} {g b cap i : Nat} {w : World} {l : List S29} (hg : P g) (hb : P b) (hne : g ≠ b) (h2 : w.heap[g]? = some (.cells #[.slice (some ⟨b, 0, none⟩) l.length cap] 62 (0, 0))) (h4 : TRow tm_enc 4 29 w (.slice (some ⟨b, 0, none⟩) l.length cap) l) (hi : i < l.length) (hc : l.length ≤ cap) :
  HQ P g ((w.setCells b (i * 4) (tm_enc (Hp.g z29 l (l.length - 1)))).setCell ⟨g, 0, none⟩ (.slice (some ⟨b, 0, none⟩) (l.length - 1) (l.length - 1))) (Hp.cutAt z29 l i) := by
 unfold Hp.cutAt
 have t1 := h4.set (fun _ => rfl) hi (Hp.g z29 l (l.length - 1))
 have hl : (l.set i (Hp.g z29 l (l.length - 1))).length = l.length := List.length_set
 generalize Hp.g z29 l (l.length - 1) = y at t1 hl ⊢
 rw [← hl] at t1
 have t2 := t1.cut (n := l.length - 1) (c := l.length - 1) (cap := cap) (by rw [hl]; omega) (Nat.le_refl _) (by omega)
 have hgr : (w.setCells b (i * 4) (tm_enc y)).heap[g]? = some (.cells #[.slice (some ⟨b, 0, none⟩) l.length cap] 62 (0, 0)) := by rw [setCells_far _ _ g hne]; exact h2
 generalize w.setCells b (i * 4) (tm_enc y) = w1 at t2 hgr ⊢
 have hs := blk_set hgr 0 (.slice (some ⟨b, 0, none⟩) (l.length - 1) (l.length - 1))
 refine ⟨hg, .slice (some ⟨b, 0, none⟩) (l.length - 1) (l.length - 1), hs, fun k hk => ?_, ?_⟩
 ·simp [Value.ownBlock] at hk; subst hk; exact hb
 ·refine t2.moved (fun k hk => ?_)
  simp [Value.ownBlock] at hk
  subst hk
  exact Below.heap_setCell _ ⟨g, 0, none⟩ _ b (fun e => hne e.symm)
theorem queue_cut {P : Nat → Prop} {g b cap i : Nat} {w0 w : World} {l : List S29} {y : S29} (hg : P g) (hb : P b) (hne : g ≠ b) (h2 : w.heap[g]? = some (.cells #[.slice (some ⟨b, 0, none⟩) l.length cap] 62 (0, 0))) (h4 : TRow tm_enc 4 29 w (.slice (some ⟨b, 0, none⟩) l.length cap) l) (hi : i < l.length) (hc : l.length ≤ cap) (hy : Hp.g z29 l (l.length - 1) = y) (hm : Mv P w0 w) :
  HQ P g (((((w.setCell ⟨b, i * 4, none⟩ (.int .i64 y.f0)).setCell ⟨b, i * 4 + 1, none⟩ (.int .i64 y.f1)).setCell ⟨b, i * 4 + 2, none⟩ (.int .u8 y.f2)).setCell ⟨b, i * 4 + 3, none⟩ (.int .i64 y.f3)).setCell ⟨g, 0, none⟩ (.slice (some ⟨b, 0, none⟩) (l.length - 1) (l.length - 1))) (Hp.cutAt z29 l i) ∧ Mv P w0 (((((w.setCell ⟨b, i * 4, none⟩ (.int .i64 y.f0)).setCell ⟨b, i * 4 + 1, none⟩ (.int .i64 y.f1)).setCell ⟨b, i * 4 + 2, none⟩ (.int .u8 y.f2)).setCell ⟨b, i * 4 + 3, none⟩ (.int .i64 y.f3)).setCell ⟨g, 0, none⟩ (.slice (some ⟨b, 0, none⟩) (l.length - 1) (l.length - 1))) := by
 subst hy
 rw [tm_sets]
 exact ⟨HQ.cutAt hg hb hne h2 h4 hi hc, (hm.sets (.inl hb) _ _).set (p := ⟨g, 0, none⟩) (.inl hg) _⟩
set_option maxHeartbeats 4000000 in
set_option maxRecDepth 100000 in
theorem queue_take (P : Nat → Prop) (g : Nat) (l : List S29) (i : Nat) (w : World) (hi : i < l.length) (hL : l.length ≤ 4398046511104) (hP : ∀ k, P k → k < w.heap.size) (hq : HQ P g w l) :
  Calls Try.prog 65 #[.pointer (some ⟨g, 0, none⟩), .int .i64 i] w fun e w' => e = .returned (.agg #[.int .i64 (Hp.g z29 l i).f0, .int .i64 (Hp.g z29 l i).f1, .int .u8 (Hp.g z29 l i).f2, .int .i64 (Hp.g z29 l i).f3]) ∧ HQ P g w' (Hp.take_ z29 tm_lt l i) ∧ Mv P w w' := by
 obtain ⟨b, cap, hPg, hPb, hne, hlc, hcm, hrow, htr⟩ := hq.row (by omega)
 obtain ⟨n, hn⟩ : ∃ n, n = l.length - 1 := ⟨_, rfl⟩
 have hnl : n < l.length := by omega
 have hni : (l.length : Int) - 1 = (n : Int) := by omega
 obtain ⟨ci0, ci1, ci2, ci3⟩ := tm_at htr i hi
 obtain ⟨cn0, cn1, cn2, cn3⟩ := tm_at htr n hnl
 generalize hx : Hp.g z29 l i = x at ci0 ci1 ci2 ci3 ⊢
 generalize hy : Hp.g z29 l n = y at cn0 cn1 cn2 cn3
 have hc := blk_cell hrow 0
 simp only [List.getElem?_toArray, List.getElem?_cons_zero] at hc
 have HX := Lib.hid hx; clear hx
 have HY := Lib.hid hy; clear hy
 have hgw : g < w.heap.size := blk_lt hrow
 have hbw : b < w.heap.size := htr.lt b (by simp [Value.ownBlock])
 have n1 : g ≠ w.heap.size := by omega
 have n2 : b ≠ w.heap.size := by omega
 have n3 : g ≠ w.heap.size + 1 := by omega
 have n4 : b ≠ w.heap.size + 1 := by omega
 have HTR := Lib.hid htr
 have HROW := Lib.hid hrow
 have HN := Lib.hid hn
 have q0 : (0 : Int) ≤ (i : Int) := by omega
 have q1 : (i : Int) < (l.length : Int) := by omega
 have q2 : (0 : Int) ≤ (n : Int) := by omega
 have q3 : (n : Int) < (l.length : Int) := by omega
 clear htr hrow hn hq
 have hu := Try.underlying29
 go_enter Try.func65, Try.ntmps65
 go_wp2_with fail
 obtain ⟨w2, hw2⟩ : ∃ w2, w2 = ((w.alloc (.cells #[.int .i64 0, .int .i64 0, .int .u8 0, .int .i64 0] 29)).alloc (.cells #[.int .i64 x.f0, .int .i64 x.f1, .int .u8 x.f2, .int .i64 x.f3] 29)) := ⟨_, rfl⟩
 rw [← hw2]
 have hbl : Below w.heap.size w w2 := by rw [hw2]; exact below_alloc (below_alloc (Below.refl _ _) _) _
 have HTR2 := Lib.hid (HTR.out.moved (w' := w2) (fun k hk => hbl.block k (HTR.out.lt k hk)))
 have HROW2 := Lib.hid ((hbl.block g hgw).trans HROW.out)
 have HM2 := Lib.hid (Mv.of_below hbl P)
 have hA : w2.heap[w.heap.size]? = some (.cells #[.int .i64 0, .int .i64 0, .int .u8 0, .int .i64 0] 29 (0, 0)) := by
  rw [hw2]; show (((w.heap.push _).push _))[w.heap.size]? = _; rw [Array.getElem?_push, if_neg (by simp), Array.getElem?_push, if_pos rfl]
 have hX : w2.heap[w.heap.size + 1]? = some (.cells #[.int .i64 x.f0, .int .i64 x.f1, .int .u8 x.f2, .int .i64 x.f3] 29 (0, 0)) := by
  rw [hw2]; show (((w.heap.push _).push _))[w.heap.size + 1]? = _; rw [Array.getElem?_push, if_pos (by simp)]
 have HA := Lib.hid hA
 have HXX := Lib.hid hX
 obtain ⟨s, hs⟩ : ∃ s, s = w.heap.size := ⟨_, rfl⟩
 rw [← hs] at HA HXX n1 n2 n3 n4 hgw hbw
 rw [← hs]
 have hPs : ¬ P s := fun h => by have := hP s h; omega
 have hPs1 : ¬ P (s + 1) := fun h => by have := hP (s + 1) h; omega
 clear hw2 hbl hA hX ci0 ci1 ci2 ci3 cn0 cn1 cn2 cn3 hc HTR HROW
 obtain ⟨cn0, cn1, cn2, cn3⟩ := tm_at HTR2.out n hnl
 rw [HY.out] at cn0 cn1 cn2 cn3
 have fb := HTR2.out.frozen
 have hc := blk_cell HROW2.out 0
 simp only [List.getElem?_toArray, List.getElem?_cons_zero] at hc
 have fg := blk_frozen HROW2.out 0
 obtain ⟨ci0, ci1, ci2, ci3⟩ := tm_at HTR2.out i hi
 have HS := Lib.hid hs; clear hs
 go_still_tail 12, (by kernel_rfl)
 change wpList _ _ _ _ _ w2.drew
 have HTR3 := Lib.hid (show TRow tm_enc 4 29 w2.drew (.slice (some ⟨b, 0, none⟩) l.length cap) l from HTR2.out)
 have HROW3 : Hid (w2.drew.heap[g]? = some (.cells #[.slice (some ⟨b, 0, none⟩) l.length cap] 62 (0, 0))) := Lib.hid HROW2.out
 have HM3 := Lib.hid HM2.out.drew
 have HA3 : Hid (w2.drew.heap[s]? = some (.cells #[.int .i64 0, .int .i64 0, .int .u8 0, .int .i64 0] 29 (0, 0))) := Lib.hid HA.out
 have HX3 : Hid (w2.drew.heap[s + 1]? = some (.cells #[.int .i64 x.f0, .int .i64 x.f1, .int .u8 x.f2, .int .i64 x.f3] 29 (0, 0))) := Lib.hid HXX.out
 have cn0' : w2.drew.cell? ⟨b, n * 4, none⟩ = _ := cn0
 clear cn0' HTR2 HROW2 HM2 HA HXX
 generalize w2.drew = w3 at HTR3 HROW3 HM3 HA3 HX3 ⊢
 clear hc fg fb ci0 ci1 ci2 ci3 cn0 cn1 cn2 cn3
 have fb := HTR3.out.frozen
 have hc := blk_cell HROW3.out 0
 simp only [List.getElem?_toArray, List.getElem?_cons_zero] at hc
 have fg := blk_frozen HROW3.out 0
 obtain ⟨ci0, ci1, ci2, ci3⟩ := tm_at HTR3.out i hi
 go_upto_region 4 with (fail)
 obtain ⟨w4, hw4⟩ : ∃ w4, w4 = ((((w3.setCell ⟨b, i * 4, none⟩ (.int .i64 y.f0)).setCell ⟨b, i * 4 + 1, none⟩ (.int .i64 y.f1)).setCell ⟨b, i * 4 + 2, none⟩ (.int .u8 y.f2)).setCell ⟨b, i * 4 + 3, none⟩ (.int .i64 y.f3)) := ⟨_, rfl⟩
 rw [← hw4]
 have hfar : ∀ k, k ≠ b → w4.heap[k]? = w3.heap[k]? := fun k hk => by
  rw [hw4, tm_sets]; exact setCells_far _ _ k hk
 have HROW4 := Lib.hid ((hfar g hne).trans HROW3.out)
 have hsb : s ≠ b := fun e => n2 e.symm
 have hsb1 : s + 1 ≠ b := fun e => n4 e.symm
 have HA4 := Lib.hid ((hfar s hsb).trans HA3.out)
 have HX4 := Lib.hid ((hfar (s + 1) hsb1).trans HX3.out)
 have HW4 := Lib.hid hw4
 clear hfar hw4 hc fg fb ci0 ci1 ci2 ci3
 have hc := blk_cell HROW4.out 0
 simp only [List.getElem?_toArray, List.getElem?_cons_zero] at hc
 have fg := blk_frozen HROW4.out 0
 have hnc : (n : Int) ≤ (cap : Int) := by omega
 have hnc2 : n ≤ cap := by omega
 go_upto_region 5 with (fail)
 have h5 := queue_cut (i := i) (y := y) hPg hPb hne HROW3.out HTR3.out hi hlc (by rw [← HN.out]; exact HY.out) HM3.out
 rw [← HW4.out, ← HN.out] at h5
 have HA5 := Lib.hid ((Below.heap_setCell w4 ⟨g, 0, none⟩ (.slice (some ⟨b, 0, none⟩) n n) s (fun e => n1 e.symm)).trans HA4.out)
 have HX5 := Lib.hid ((Below.heap_setCell w4 ⟨g, 0, none⟩ (.slice (some ⟨b, 0, none⟩) n n) (s + 1) (fun e => n3 e.symm)).trans HX4.out)
 have HQ5 := Lib.hid h5.1
 have HM5 := Lib.hid h5.2
 have hcl := Hp.cut_len z29 l i
 have HCL : Hid ((Hp.cutAt z29 l i).length = n) := Lib.hid (by rw [hcl]; exact HN.out.symm)
 clear h5 hcl HA4 HX4 HW4 HROW4 HTR3 HROW3 HM3 HA3 HX3 hc fg hnc hnc2
 generalize w4.setCell ⟨g, 0, none⟩ (.slice (some ⟨b, 0, none⟩) n n) = w5 at HA5 HX5 HQ5 HM5 ⊢
 generalize hxs : Hp.cutAt z29 l i = xs at HQ5 HCL
 have HXS := Lib.hid hxs; clear hxs
 by_cases hin : i < n
 ·have hin2 : (i : Int) < (n : Int) := by omega
  have HD5 := queue_down P g xs i w5 (by have := HCL.out; omega) (by have := HCL.out; omega) HQ5.out
  go_wp2_with (go_at_call 45; refine HD5.mono ?_; rintro e w6 ⟨rfl, hq6, hm6⟩; have HQ6 := Lib.hid hq6; have HM6 := Lib.hid hm6; clear hq6 hm6)
  have HM56 := Lib.hid (HM5.out.then_ HM6.out (fun _ h => .inl h))
  have HA6 := Lib.hid (HM6.out.blk HA5.out hPs)
  have HX6 := Lib.hid (HM6.out.blk HX5.out hPs1)
  clear HM5 HM6 HA5 HX5 HQ5
  have HU6 := queue_up P g (Hp.down z29 tm_lt xs.length xs i) i w6 (by rw [(Hp.down_both z29 tm_lt xs.length xs i (by have := HCL.out; omega)).1]; have := HCL.out; omega) HQ6.out
  go_upto_region 8 with (go_at_call 71; refine HU6.mono ?_; rintro e w7 ⟨rfl, hq7, hm7⟩; have HQ7 := Lib.hid hq7; have HM7 := Lib.hid hm7; clear hq7 hm7)
  have HMZ := Lib.hid (HM56.out.then_ HM7.out (fun _ h => .inl h))
  have HAZ := Lib.hid (HM7.out.blk HA6.out hPs)
  have HXZ := Lib.hid (HM7.out.blk HX6.out hPs1)
  have HQZ : Hid (HQ P g w7 (Hp.take_ z29 tm_lt l i)) := Lib.hid (by
   unfold Hp.take_
   rw [if_pos (by rw [← HN.out]; exact hin), HXS.out, ← HN.out, ← HCL.out]
   exact HQ7.out)
  clear HM56 HM7 HA6 HX6 HQ6 HQ7 HU6 HD5
  have x0 := blk_cell HXZ.out 0
  have x1 := blk_cell HXZ.out 1
  have x2 := blk_cell HXZ.out 2
  have x3 := blk_cell HXZ.out 3
  have a0 := blk_cell HAZ.out 0
  have a1 := blk_cell HAZ.out 1
  have a2 := blk_cell HAZ.out 2
  have a3 := blk_cell HAZ.out 3
  have b0 := blk_frozen HAZ.out 0
  have b1 := blk_frozen HAZ.out 1
  have b2 := blk_frozen HAZ.out 2
  have b3 := blk_frozen HAZ.out 3
  simp only [List.getElem?_toArray, List.getElem?_cons_zero, List.getElem?_cons_succ] at x0 x1 x2 x3 a0 a1 a2 a3
  obtain ⟨hqz, hmz⟩ := HQZ.out.set4 HMZ.out hPs (by rw [HS.out]; exact Nat.le_refl _) (.int .i64 x.f0) (.int .i64 x.f1) (.int .u8 x.f2) (.int .i64 x.f3)
  have HQE := Lib.hid hqz
  have HME := Lib.hid hmz
  clear hqz hmz
  go_wp2
  refine bodyPost_ret (v := .agg #[.int .i64 x.f0, .int .i64 x.f1, .int .u8 x.f2, .int .i64 x.f3]) (by simp [results, Try.results65, go_sem, a0, a1, a2, a3, b0, b1, b2, b3]) rfl ⟨rfl, HQE.out, HME.out⟩
 ·have hin2 : ¬ (i : Int) < (n : Int) := by omega
  go_upto_region 8 with (fail)
  have HMZ := HM5
  have HAZ := HA5
  have HXZ := HX5
  have HQZ : Hid (HQ P g w5 (Hp.take_ z29 tm_lt l i)) := Lib.hid (by
   unfold Hp.take_
   rw [if_neg (by rw [← HN.out]; exact hin), HXS.out]
   exact HQ5.out)
  have x0 := blk_cell HXZ.out 0
  have x1 := blk_cell HXZ.out 1
  have x2 := blk_cell HXZ.out 2
  have x3 := blk_cell HXZ.out 3
  have a0 := blk_cell HAZ.out 0
  have a1 := blk_cell HAZ.out 1
  have a2 := blk_cell HAZ.out 2
  have a3 := blk_cell HAZ.out 3
  have b0 := blk_frozen HAZ.out 0
  have b1 := blk_frozen HAZ.out 1
  have b2 := blk_frozen HAZ.out 2
  have b3 := blk_frozen HAZ.out 3
  simp only [List.getElem?_toArray, List.getElem?_cons_zero, List.getElem?_cons_succ] at x0 x1 x2 x3 a0 a1 a2 a3
  obtain ⟨hqz, hmz⟩ := HQZ.out.set4 HMZ.out hPs (by rw [HS.out]; exact Nat.le_refl _) (.int .i64 x.f0) (.int .i64 x.f1) (.int .u8 x.f2) (.int .i64 x.f3)
  have HQE := Lib.hid hqz
  have HME := Lib.hid hmz
  clear hqz hmz
  go_wp2
  refine bodyPost_ret (v := .agg #[.int .i64 x.f0, .int .i64 x.f1, .int .u8 x.f2, .int .i64 x.f3]) (by simp [results, Try.results65, go_sem, a0, a1, a2, a3, b0, b1, b2, b3]) rfl ⟨rfl, HQE.out, HME.out⟩

end Go.Proofs.Ytlpbolkbdcgmnaa.XD
-- squeezed
