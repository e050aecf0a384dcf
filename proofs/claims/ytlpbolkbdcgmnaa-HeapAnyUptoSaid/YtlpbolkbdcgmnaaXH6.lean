-- by px.py, a program of this session, over the kit's printer: functions given by hand stand beside printed ones. Lean checks all of it.
import Derived.Test.YtlpbolkbdcgmnaaXH0
import Derived.Test.YtlpbolkbdcgmnaaXH2
import Derived.Test.YtlpbolkbdcgmnaaXH3
import Derived.Test.YtlpbolkbdcgmnaaXH5
import Derived.Test.YtlpbolkbdcgmnaaGIdx
import Derived.Test.YtlpbolkbdcgmnaaGLayT
import Derived.BigRegion
import Derived.Deep.DeepCutAuto
import Derived.Deep.CutBlock
import Derived.BigRegion
import Derived.Test.YtlpbolkbdcgmnaaGSort
import Derived.Test.YtlpbolkbdcgmnaaGLayT
import Derived.Test.YtlpbolkbdcgmnaaQHeapS
namespace Go.Proofs.Ytlpbolkbdcgmnaa.XH
open Go.RowKit Go.Proofs.YtlpbolkbdcgmnaaW.PrintWords Go.Proofs.YtlpbolkbdcgmnaaW.PrintLast Go.Proofs.YtlpbolkbdcgmnaaW.PrintMore
attribute [local go_sem] max2_int min2_int max_two min_two max_three min_three max_four min_four   -- for this text's walks alone
set_option linter.unusedVariables false
set_option linter.unusedSimpArgs false

/-! ### heap_Open: function 46, by hand -/
set_option maxHeartbeats 1000000 in
set_option maxRecDepth 100000 in
theorem heap_Open (k : Nat) (A0 : Option Addr) (c0 : Nat) (l : List S29) (r : Int) (w : World) (hr0 : Kd.C k29 w A0 l.length l) (hc0 : l.length ≤ c0) (h : heap_Check.f k l = some r) (hlen : l.length < 4398046511104) :
  Calls Try.prog 46 #[.slice A0 l.length c0] w fun e w' => ∃ g, e = .returned (.tuple #[.pointer (some ⟨g, 0, none⟩), .int .i64 r]) ∧ HQ (fun k => w.heap.size ≤ k ∧ k < w'.heap.size) g w' (if r = 0 then l else []) ∧ Below w.heap.size w w' := by
 have HR0 := Lib.hid hr0; clear hr0
 have HC := heap_Check.calls k A0 c0 l r w HR0.out hc0 h
 have HCL := fun (W : World) (hb : Below w.heap.size w W) => api_Timer_44.calls A0 c0 l l W (Kd.C_below HR0.out hb) hc0 (by unfold api_Timer_44.f; rw [if_pos hlen])
 have hu := Try.underlying62
 clear h
 by_cases c : r = 0
 ·subst c
  rw [if_pos rfl]
  go_enter Try.func46, Try.ntmps46
  go_wp2_with (first | (go_at_call 25; refine HC.mono ?_; rintro e w3 ⟨rfl, hb3⟩; have HB3 := Lib.hid hb3; clear hb3) | (go_at_call 44; refine (HCL _ HB3.out).mono ?_; rintro e w4 ⟨v4, rfl, hr4, hb4⟩; obtain ⟨A4, c4, rfl, hl4, hC4⟩ := Kd.R_reads hr4; clear hC4; have HR4 := Lib.hid hr4; have HZ4 := Lib.hid hb4.size; have HB4 := Lib.hid (below_then HB3.out HB3.out.size hb4); clear hb4 hr4))
  go_ret2
  refine ⟨_, rfl, HQ.start HR4.out HZ4.out (fun k hk hk2 => ⟨Nat.le_trans HB3.out.size hk, by simpa using hk2⟩), below_alloc HB4.out _⟩
 ·rw [if_neg c]
  have d : (r != 0) = true := bne_iff_ne.mpr c
  go_enter Try.func46, Try.ntmps46
  go_wp2_with (first | (go_at_call 25; refine HC.mono ?_; rintro e w3 ⟨rfl, hb3⟩; have HB3 := Lib.hid hb3; clear hb3))
  go_ret2
  refine ⟨_, rfl, HQ.start (B := w.heap.size) (ok := fun _ => True) (Kd.R_nil _ _ _ _ _) HB3.out.size (fun k hk hk2 => ⟨hk, by simpa using hk2⟩), below_alloc HB3.out _⟩

-- NOT PRINTED: function 73 (api_Timer_73)

-- PXIMPORT YtlpbolkbdcgmnaaGIdx
-- PXIMPORT YtlpbolkbdcgmnaaGLayT
/-! ### heap_Queue_find: function 64, by hand -/
def hp_is (seq : Int) (x : S29) : Bool := x.f1 == seq
/-- Where a Seq is; -1: nowhere. -/
def hp_find (seq : Int) (l : List S29) : Int := @Lib.idxBy S29 (fun _ y => hp_is seq y) l z29
set_option maxHeartbeats 400000 in
set_option maxRecDepth 100000 in
theorem hp_find1 (x : S29) (seq : Int) (g : Nat) (W : World) (hg : g < W.heap.size) (hc : W.cell? ⟨g, 0, none⟩ = some (.int .i64 seq)) :
  Calls Try.prog 76 #[.agg #[.int .i64 x.f0, .int .i64 x.f1, .int .u8 x.f2, .int .i64 x.f3], .pointer (some ⟨g, 0, none⟩)] W fun e w' => e = .returned (.bool (hp_is seq x)) ∧ Below W.heap.size W w' := by
 have hb := (Below.refl W.heap.size W)
 have hne : g ≠ W.heap.size := by omega
 have hu := Try.underlying29
 unfold hp_is
 go_enter Try.func76, Try.ntmps76
 go_wp2
 all_goals (go_ret; exact ⟨by first | rfl | (simp_all; done) | (simp_all; omega), hb.alloc hb.size _⟩)
theorem tm_readsK {w : World} {A : Option Addr} {n c : Nat} {l : List S29} (h : TRow tm_enc 4 29 w (.slice A n c) l) : Kd.C k29 w A l.length l :=
 TRow.reads (d := k29) (fun w x => k29_mk w x) (fun _ => rfl) rfl h
set_option maxHeartbeats 400000 in
set_option maxRecDepth 100000 in
theorem queue_find (P : Nat → Prop) (g : Nat) (l : List S29) (seq : Int) (w : World) (hq : HQ P g w l) :
  Calls Try.prog 64 #[.pointer (some ⟨g, 0, none⟩), .int .i64 seq] w fun e w' => e = .returned (.int .i64 (hp_find seq l)) ∧ Below w.heap.size w w' := by
 letI : Inhabited S29 := ⟨z29⟩
 obtain ⟨hPg, v, hrow, hPv, htr⟩ := hq
 obtain ⟨A, c, rfl, hlc⟩ := htr.slice
 have hgw : g < w.heap.size := blk_lt hrow
 have hc := blk_cell hrow 0
 simp only [List.getElem?_toArray, List.getElem?_cons_zero] at hc
 have hne : g ≠ w.heap.size := by omega
 have eg : ∀ args w, (callFunc 76 args).run Try.prog w = .ok (.enter 76 args) w := enters_of Try.func76 (by kernel_rfl) rfl
 have hmf : ∀ (fn : Fn) (first cap : Array Value) (w : World), (Instr.makeFunc fn first cap).run Try.prog w = .ok (.func fn first cap) w := fun _ _ _ _ => rfl
 have hb := below_alloc (Below.refl w.heap.size w) (.cells #[.int .i64 seq] 2)
 have HC := gi_index (d := k29) (enc := tm_enc) Try.lay_tidx Try.isAgg29 Try.sizeOf29 (fun _ => rfl) (fun h => k29_open h) (by decide) (hp_is seq) 76 #[.pointer (some ⟨w.heap.size, 0, none⟩)] eg A c l (w.alloc (.cells #[.int .i64 seq] 2)) (Kd.C_below (tm_readsK htr) (below_alloc (Below.refl _ _) _))
  (fun W x hbw => (hp_find1 x seq w.heap.size W (Nat.lt_of_lt_of_le (by simp) hbw.size) ((hbw.cell (p := ⟨w.heap.size, 0, none⟩) (by simp)).trans (by simp))).mono (fun e w' ⟨he, hb'⟩ => ⟨he, below_then hbw hbw.size hb'⟩))
 change Calls Try.prog 73 _ _ _ at HC
 unfold hp_find
 change Calls _ _ _ _ (fun e w_ => e = .returned (.int .i64 (@Lib.idxBy S29 (fun _ y => hp_is seq y) l z29)) ∧ _) at HC
 generalize @Lib.idxBy S29 (fun _ y => hp_is seq y) l z29 = r at HC ⊢
 have HB := Lib.hid hb; clear hb htr
 go_enter Try.func64, Try.ntmps64
 go_wp2_with (go_at_call 73; refine HC.mono ?_; rintro e w3 ⟨rfl, hb3⟩)
 go_ret
 exact ⟨rfl, below_then HB.out HB.out.size hb3⟩

-- PXIMPORT Derived.BigRegion
/-! ### heap_Queue_up: function 71, by hand -/
set_option maxHeartbeats 2000000 in
set_option maxRecDepth 100000 in
theorem queue_up (P : Nat → Prop) (g : Nat) (l : List S29) (i : Nat) (w : World) (hi : i < l.length) (hq : HQ P g w l) :
  Calls Try.prog 71 #[.pointer (some ⟨g, 0, none⟩), .int .i64 i] w fun e w' => e = .returned (.tuple #[]) ∧ HQ P g w' (Hp.up z29 tm_lt i l i) ∧ Mv P w w' := by
 have HQ0 := Lib.hid hq; clear hq
 have HM := Lib.hid (Mv.refl P w)
 have hu := Try.underlying29
 go_enter Try.func71, Try.ntmps71
 go_wp2
 go_loopw [1, 4] (fun v1 v4 wr => ∃ (j m : Nat) (l' : List S29), v1 = .int .i64 j ∧ j < l'.length ∧ j ≤ m ∧ Hid (HQ P g wr l') ∧ Hid (Mv P w wr) ∧ Hid (Hp.up z29 tm_lt i l i = Hp.up z29 tm_lt m l' j)) (fun v1 _ _ => (intOf v1).toNat)
 case atStart => exact ⟨i, i, l, rfl, hi, Nat.le_refl _, HQ0, HM, Lib.hid rfl⟩
 case round =>
  clear HQ0 HM
  obtain ⟨j, m, l', rfl, hj, hjm, HQ1, HM, HE⟩ := hrel
  obtain ⟨b, cap, hPg, hPb, hne, hlc, hcm, hrow, htr⟩ := HQ1.out.row (by omega)
  by_cases hj0 : j = 0
  ·subst hj0
   have hE : Hp.up z29 tm_lt m l' 0 = l' := by cases m <;> simp [Hp.up]
   have HE2 := Lib.hid (HE.out.trans hE)
   clear hE HE htr hrow
   go_wp2
   refine bodyPost_end (results_none rfl _ _ _) rfl ?_
   rw [HE2.out]
   exact ⟨rfl, HQ1.out, HM.out⟩
  ·obtain ⟨p, hp⟩ : ∃ p, p = (j - 1) / 2 := ⟨_, rfl⟩
   have hpj : p < j := by omega
   have hpi : ((j : Int) - 1) / 2 = (p : Int) := by omega
   have hpl : p < l'.length := by omega
   obtain ⟨cj0, cj1, cj2, cj3⟩ := tm_at htr j hj
   obtain ⟨cp0, cp1, cp2, cp3⟩ := tm_at htr p hpl
   have hc := blk_cell hrow 0
   have hf := blk_frozen hrow 0
   have HTR := Lib.hid htr
   have HROW := Lib.hid hrow
   have hHE : Hp.up z29 tm_lt m l' j = if tm_lt (Hp.g z29 l' j) (Hp.g z29 l' p) = true then Hp.up z29 tm_lt (m - 1) (Hp.swap z29 l' j p) p else l' := by
    obtain ⟨m', rfl⟩ : ∃ m', m = m' + 1 := ⟨m - 1, by omega⟩
    simp only [Hp.up, Nat.add_sub_cancel]
    rw [if_neg hj0, ← hp]
   have HE2 := Lib.hid (HE.out.trans hHE)
   have hq1 : (0 : Int) ≤ (j : Int) := by omega
   have hq2 : (j : Int) < (l'.length : Int) := by omega
   have hq3 : (0 : Int) ≤ (p : Int) := by omega
   have hq4 : (p : Int) < (l'.length : Int) := by omega
   have hq5 : (0 : Int) < (j : Int) := by omega
   have HP := Lib.hid hp
   clear hHE HE htr hrow hp
   generalize hx : Hp.g z29 l' j = x at cj0 cj1 cj2 cj3 HE2
   generalize hy : Hp.g z29 l' p = y at cp0 cp1 cp2 cp3 HE2
   have HX := Lib.hid hx; clear hx
   have HY := Lib.hid hy; clear hy
   simp only [List.getElem?_toArray, List.getElem?_cons_zero] at hc
   go_wp2_with fail
   go_still_tail 14, (by kernel_rfl)
   change wpList _ _ _ _ _ wr.drew
   have HC := fun W => tm_order x y W
   have hcf := tm_cf_lt x y
   generalize tm_cf x y = r at HC hcf
   have HCF := Lib.hid hcf; clear hcf
   clear cj0 cj1 cj2 cj3 cp0 cp1 cp2 cp3 hc hf
   by_cases hr : r < 0
   ·have hr2 : ¬ 0 ≤ r := by omega
    go_wp2_with (go_at_call 53; refine (HC _).mono ?_; rintro e w3 ⟨rfl, hb3⟩)
    have HTR3 := Lib.hid (HTR.out.moved (w' := w3) (fun k hk => hb3.block k (HTR.out.lt k hk)))
    have HROW3 := Lib.hid ((hb3.block g (blk_lt (HROW.out))).trans HROW.out)
    have HM3 := Lib.hid (HM.out.drew.below hb3)
    clear hb3 HTR HROW HM HQ1
    obtain ⟨cj0, cj1, cj2, cj3⟩ := tm_at HTR3.out j hj
    obtain ⟨cp0, cp1, cp2, cp3⟩ := tm_at HTR3.out p hpl
    rw [HX.out] at cj0 cj1 cj2 cj3
    rw [HY.out] at cp0 cp1 cp2 cp3
    have fj := HTR3.out.frozen
    have hc := blk_cell HROW3.out 0
    simp only [List.getElem?_toArray, List.getElem?_cons_zero] at hc
    go_big_region
    obtain ⟨w4, hw4, hq4, hm4⟩ := queue_swapped (i := j) (j := p) hPg hPb hne HROW3.out HTR3.out hj hpl HX.out HY.out HM3.out
    rw [← hw4]
    have HQ4 := Lib.hid hq4
    have HM4 := Lib.hid hm4
    clear hw4 hq4 hm4 cj0 cj1 cj2 cj3 cp0 cp1 cp2 cp3 fj hc HTR3 HROW3 HM3
    go_wp2
    have hlt : tm_lt x y = true := by rw [← HCF.out]; exact decide_eq_true hr
    have hsl := Hp.swap_len z29 l' j p
    go_roundw
    case rel => exact ⟨p, m - 1, _, rfl, by rw [hsl]; exact hpl, by omega, HQ4, HM4, Lib.hid (by rw [HE2.out, if_pos hlt])⟩
    case measure => simp [intOf]; omega
   ·have hr2 : 0 ≤ r := by omega
    go_wp2_with (go_at_call 53; refine (HC _).mono ?_; rintro e w3 ⟨rfl, hb3⟩)
    first | go_end0 | ((try simp only [Exit.inBlock, Exit.then]); refine bodyPost_end (results_none rfl _ _ _) rfl ?_) | ((try simp only [Exit.inBlock, Exit.then]); refine bodyPost_ret (results_none rfl _ _ _) rfl ?_)
    have hlt : tm_lt x y = false := by rw [← HCF.out]; exact decide_eq_false (by omega)
    rw [HE2.out, if_neg (by rw [hlt]; decide)]
    exact ⟨rfl, HQ1.out.below (w' := w3) ⟨hb3.os, hb3.tape, hb3.output, hb3.size, hb3.block⟩, HM.out.drew.below hb3⟩

-- PXIMPORT Derived.Deep.DeepCutAuto
-- PXIMPORT Derived.Deep.CutBlock
/-! ### heap_Queue_take: function 65, by hand -/
theorem HQ.set {P : Nat → Prop} {g : Nat} {w : World} {l : List S29} (h : HQ P g w l) {p : Addr} (hn : ¬ P p.block) (v : Value) : HQ P g (w.setCell p v) l := by
 obtain ⟨h1, u, h2, h3, h4⟩ := h
 exact ⟨h1, u, (Below.heap_setCell w p v g (fun e => hn (e ▸ h1))).trans h2, h3, h4.moved (fun k hk => Below.heap_setCell w p v k (fun e => hn (e ▸ h3 k hk)))⟩
theorem HQ.set4 {P : Nat → Prop} {g s : Nat} {w0 w : World} {l : List S29} (h : HQ P g w l) (hm : Mv P w0 w) (hn : ¬ P s) (hs : w0.heap.size ≤ s) (a b c d : Value) :
  HQ P g ((((w.setCell ⟨s, 0, none⟩ a).setCell ⟨s, 1, none⟩ b).setCell ⟨s, 2, none⟩ c).setCell ⟨s, 3, none⟩ d) l ∧ Mv P w0 ((((w.setCell ⟨s, 0, none⟩ a).setCell ⟨s, 1, none⟩ b).setCell ⟨s, 2, none⟩ c).setCell ⟨s, 3, none⟩ d) :=
 ⟨(((h.set (p := ⟨s, 0, none⟩) hn _).set (p := ⟨s, 1, none⟩) hn _).set (p := ⟨s, 2, none⟩) hn _).set (p := ⟨s, 3, none⟩) hn _, (((hm.set (p := ⟨s, 0, none⟩) (.inr hs) _).set (p := ⟨s, 1, none⟩) (.inr hs) _).set (p := ⟨s, 2, none⟩) (.inr hs) _).set (p := ⟨s, 3, none⟩) (.inr hs) _⟩
theorem HQ.cutAt {P : Nat → Prop} {g b cap i : Nat} {w : World} {l : List S29} (hg : P g) (hb : P b) (hne : g ≠ b) (h2 : w.heap[g]? = some (.cells #[.slice (some ⟨b, 0, none⟩) l.length cap] 62 (0, 0))) (h4 : TRow tm_enc 4 29 w (.slice (some ⟨b, 0, none⟩) l.length cap) l) (hi : i < l.length) (hc : l.length ≤ cap) :
  HQ P g ((w.setCells b (i * 4) (tm_enc (Hp.g z29 l (l.length - 1)))).setCell ⟨g, 0, none⟩ (.slice (some ⟨b, 0, none⟩) (l.length - 1) (l.length - 1))) (Hp.cutAt z29 l i) := by
 unfold Hp.cutAt
 have t1 := h4.set (fun _ => rfl) hi (Hp.g z29 l (l.length - 1))
 have hl : (l.set i (Hp.g z29 l (l.length - 1))).length = l.length := List.length_set
 generalize Hp.g z29 l (l.length - 1) = y at t1 hl ⊢
 rw [← hl] at t1
 have t2 := t1.cut (n := l.length - 1) (c := l.length - 1) (cap := cap) (by rw [hl]; omega) (Nat.le_refl _) (by omega)
 have hgr : (w.setCells b (i * 4) (tm_enc y)).heap[g]? = some (.cells #[.slice (some ⟨b, 0, none⟩) l.length cap] 62 (0, 0)) := by rw [setCells_far _ _ g hne]; exact h2
 generalize w.setCells b (i * 4) (tm_enc y) = w1 at t2 hgr ⊢
 have hs := blk_set hgr 0 (.slice (some ⟨b, 0, none⟩) (l.length - 1) (l.length - 1))
 refine ⟨hg, .slice (some ⟨b, 0, none⟩) (l.length - 1) (l.length - 1), hs, fun k hk => ?_, ?_⟩
 ·simp [Value.ownBlock] at hk; subst hk; exact hb
 ·refine t2.moved (fun k hk => ?_)
  simp [Value.ownBlock] at hk
  subst hk
  exact Below.heap_setCell _ ⟨g, 0, none⟩ _ b (fun e => hne e.symm)
theorem queue_cut {P : Nat → Prop} {g b cap i : Nat} {w0 w : World} {l : List S29} {y : S29} (hg : P g) (hb : P b) (hne : g ≠ b) (h2 : w.heap[g]? = some (.cells #[.slice (some ⟨b, 0, none⟩) l.length cap] 62 (0, 0))) (h4 : TRow tm_enc 4 29 w (.slice (some ⟨b, 0, none⟩) l.length cap) l) (hi : i < l.length) (hc : l.length ≤ cap) (hy : Hp.g z29 l (l.length - 1) = y) (hm : Mv P w0 w) :
  HQ P g (((((w.setCell ⟨b, i * 4, none⟩ (.int .i64 y.f0)).setCell ⟨b, i * 4 + 1, none⟩ (.int .i64 y.f1)).setCell ⟨b, i * 4 + 2, none⟩ (.int .u8 y.f2)).setCell ⟨b, i * 4 + 3, none⟩ (.int .i64 y.f3)).setCell ⟨g, 0, none⟩ (.slice (some ⟨b, 0, none⟩) (l.length - 1) (l.length - 1))) (Hp.cutAt z29 l i) ∧ Mv P w0 (((((w.setCell ⟨b, i * 4, none⟩ (.int .i64 y.f0)).setCell ⟨b, i * 4 + 1, none⟩ (.int .i64 y.f1)).setCell ⟨b, i * 4 + 2, none⟩ (.int .u8 y.f2)).setCell ⟨b, i * 4 + 3, none⟩ (.int .i64 y.f3)).setCell ⟨g, 0, none⟩ (.slice (some ⟨b, 0, none⟩) (l.length - 1) (l.length - 1))) := by
 subst hy
 rw [tm_sets]
 exact ⟨HQ.cutAt hg hb hne h2 h4 hi hc, (hm.sets (.inl hb) _ _).set (p := ⟨g, 0, none⟩) (.inl hg) _⟩
set_option maxHeartbeats 4000000 in
set_option maxRecDepth 100000 in
theorem queue_take (P : Nat → Prop) (g : Nat) (l : List S29) (i : Nat) (w : World) (hi : i < l.length) (hL : l.length ≤ 4398046511104) (hP : ∀ k, P k → k < w.heap.size) (hq : HQ P g w l) :
  Calls Try.prog 65 #[.pointer (some ⟨g, 0, none⟩), .int .i64 i] w fun e w' => e = .returned (.agg #[.int .i64 (Hp.g z29 l i).f0, .int .i64 (Hp.g z29 l i).f1, .int .u8 (Hp.g z29 l i).f2, .int .i64 (Hp.g z29 l i).f3]) ∧ HQ P g w' (Hp.take_ z29 tm_lt l i) ∧ Mv P w w' := by
 obtain ⟨b, cap, hPg, hPb, hne, hlc, hcm, hrow, htr⟩ := hq.row (by omega)
 obtain ⟨n, hn⟩ : ∃ n, n = l.length - 1 := ⟨_, rfl⟩
 have hnl : n < l.length := by omega
 have hni : (l.length : Int) - 1 = (n : Int) := by omega
 obtain ⟨ci0, ci1, ci2, ci3⟩ := tm_at htr i hi
 obtain ⟨cn0, cn1, cn2, cn3⟩ := tm_at htr n hnl
 generalize hx : Hp.g z29 l i = x at ci0 ci1 ci2 ci3 ⊢
 generalize hy : Hp.g z29 l n = y at cn0 cn1 cn2 cn3
 have hc := blk_cell hrow 0
 simp only [List.getElem?_toArray, List.getElem?_cons_zero] at hc
 have HX := Lib.hid hx; clear hx
 have HY := Lib.hid hy; clear hy
 have hgw : g < w.heap.size := blk_lt hrow
 have hbw : b < w.heap.size := htr.lt b (by simp [Value.ownBlock])
 have n1 : g ≠ w.heap.size := by omega
 have n2 : b ≠ w.heap.size := by omega
 have n3 : g ≠ w.heap.size + 1 := by omega
 have n4 : b ≠ w.heap.size + 1 := by omega
 have HTR := Lib.hid htr
 have HROW := Lib.hid hrow
 have HN := Lib.hid hn
 have q0 : (0 : Int) ≤ (i : Int) := by omega
 have q1 : (i : Int) < (l.length : Int) := by omega
 have q2 : (0 : Int) ≤ (n : Int) := by omega
 have q3 : (n : Int) < (l.length : Int) := by omega
 clear htr hrow hn hq
 have hu := Try.underlying29
 go_enter Try.func65, Try.ntmps65
 go_wp2_with fail
 obtain ⟨w2, hw2⟩ : ∃ w2, w2 = ((w.alloc (.cells #[.int .i64 0, .int .i64 0, .int .u8 0, .int .i64 0] 29)).alloc (.cells #[.int .i64 x.f0, .int .i64 x.f1, .int .u8 x.f2, .int .i64 x.f3] 29)) := ⟨_, rfl⟩
 rw [← hw2]
 have hbl : Below w.heap.size w w2 := by rw [hw2]; exact below_alloc (below_alloc (Below.refl _ _) _) _
 have HTR2 := Lib.hid (HTR.out.moved (w' := w2) (fun k hk => hbl.block k (HTR.out.lt k hk)))
 have HROW2 := Lib.hid ((hbl.block g hgw).trans HROW.out)
 have HM2 := Lib.hid (Mv.of_below hbl P)
 have hA : w2.heap[w.heap.size]? = some (.cells #[.int .i64 0, .int .i64 0, .int .u8 0, .int .i64 0] 29 (0, 0)) := by
  rw [hw2]; show (((w.heap.push _).push _))[w.heap.size]? = _; rw [Array.getElem?_push, if_neg (by simp), Array.getElem?_push, if_pos rfl]
 have hX : w2.heap[w.heap.size + 1]? = some (.cells #[.int .i64 x.f0, .int .i64 x.f1, .int .u8 x.f2, .int .i64 x.f3] 29 (0, 0)) := by
  rw [hw2]; show (((w.heap.push _).push _))[w.heap.size + 1]? = _; rw [Array.getElem?_push, if_pos (by simp)]
 have HA := Lib.hid hA
 have HXX := Lib.hid hX
 obtain ⟨s, hs⟩ : ∃ s, s = w.heap.size := ⟨_, rfl⟩
 rw [← hs] at HA HXX n1 n2 n3 n4 hgw hbw
 rw [← hs]
 have hPs : ¬ P s := fun h => by have := hP s h; omega
 have hPs1 : ¬ P (s + 1) := fun h => by have := hP (s + 1) h; omega
 clear hw2 hbl hA hX ci0 ci1 ci2 ci3 cn0 cn1 cn2 cn3 hc HTR HROW
 obtain ⟨cn0, cn1, cn2, cn3⟩ := tm_at HTR2.out n hnl
 rw [HY.out] at cn0 cn1 cn2 cn3
 have fb := HTR2.out.frozen
 have hc := blk_cell HROW2.out 0
 simp only [List.getElem?_toArray, List.getElem?_cons_zero] at hc
 have fg := blk_frozen HROW2.out 0
 obtain ⟨ci0, ci1, ci2, ci3⟩ := tm_at HTR2.out i hi
 have HS := Lib.hid hs; clear hs
 go_still_tail 12, (by kernel_rfl)
 change wpList _ _ _ _ _ w2.drew
 have HTR3 := Lib.hid (show TRow tm_enc 4 29 w2.drew (.slice (some ⟨b, 0, none⟩) l.length cap) l from HTR2.out)
 have HROW3 : Hid (w2.drew.heap[g]? = some (.cells #[.slice (some ⟨b, 0, none⟩) l.length cap] 62 (0, 0))) := Lib.hid HROW2.out
 have HM3 := Lib.hid HM2.out.drew
 have HA3 : Hid (w2.drew.heap[s]? = some (.cells #[.int .i64 0, .int .i64 0, .int .u8 0, .int .i64 0] 29 (0, 0))) := Lib.hid HA.out
 have HX3 : Hid (w2.drew.heap[s + 1]? = some (.cells #[.int .i64 x.f0, .int .i64 x.f1, .int .u8 x.f2, .int .i64 x.f3] 29 (0, 0))) := Lib.hid HXX.out
 have cn0' : w2.drew.cell? ⟨b, n * 4, none⟩ = _ := cn0
 clear cn0' HTR2 HROW2 HM2 HA HXX
 generalize w2.drew = w3 at HTR3 HROW3 HM3 HA3 HX3 ⊢
 clear hc fg fb ci0 ci1 ci2 ci3 cn0 cn1 cn2 cn3
 have fb := HTR3.out.frozen
 have hc := blk_cell HROW3.out 0
 simp only [List.getElem?_toArray, List.getElem?_cons_zero] at hc
 have fg := blk_frozen HROW3.out 0
 obtain ⟨ci0, ci1, ci2, ci3⟩ := tm_at HTR3.out i hi
 go_upto_region 4 with (fail)
 obtain ⟨w4, hw4⟩ : ∃ w4, w4 = ((((w3.setCell ⟨b, i * 4, none⟩ (.int .i64 y.f0)).setCell ⟨b, i * 4 + 1, none⟩ (.int .i64 y.f1)).setCell ⟨b, i * 4 + 2, none⟩ (.int .u8 y.f2)).setCell ⟨b, i * 4 + 3, none⟩ (.int .i64 y.f3)) := ⟨_, rfl⟩
 rw [← hw4]
 have hfar : ∀ k, k ≠ b → w4.heap[k]? = w3.heap[k]? := fun k hk => by
  rw [hw4, tm_sets]; exact setCells_far _ _ k hk
 have HROW4 := Lib.hid ((hfar g hne).trans HROW3.out)
 have hsb : s ≠ b := fun e => n2 e.symm
 have hsb1 : s + 1 ≠ b := fun e => n4 e.symm
 have HA4 := Lib.hid ((hfar s hsb).trans HA3.out)
 have HX4 := Lib.hid ((hfar (s + 1) hsb1).trans HX3.out)
 have HW4 := Lib.hid hw4
 clear hfar hw4 hc fg fb ci0 ci1 ci2 ci3
 have hc := blk_cell HROW4.out 0
 simp only [List.getElem?_toArray, List.getElem?_cons_zero] at hc
 have fg := blk_frozen HROW4.out 0
 have hnc : (n : Int) ≤ (cap : Int) := by omega
 have hnc2 : n ≤ cap := by omega
 go_upto_region 5 with (fail)
 have h5 := queue_cut (i := i) (y := y) hPg hPb hne HROW3.out HTR3.out hi hlc (by rw [← HN.out]; exact HY.out) HM3.out
 rw [← HW4.out, ← HN.out] at h5
 have HA5 := Lib.hid ((Below.heap_setCell w4 ⟨g, 0, none⟩ (.slice (some ⟨b, 0, none⟩) n n) s (fun e => n1 e.symm)).trans HA4.out)
 have HX5 := Lib.hid ((Below.heap_setCell w4 ⟨g, 0, none⟩ (.slice (some ⟨b, 0, none⟩) n n) (s + 1) (fun e => n3 e.symm)).trans HX4.out)
 have HQ5 := Lib.hid h5.1
 have HM5 := Lib.hid h5.2
 have hcl := Hp.cut_len z29 l i
 have HCL : Hid ((Hp.cutAt z29 l i).length = n) := Lib.hid (by rw [hcl]; exact HN.out.symm)
 clear h5 hcl HA4 HX4 HW4 HROW4 HTR3 HROW3 HM3 HA3 HX3 hc fg hnc hnc2
 generalize w4.setCell ⟨g, 0, none⟩ (.slice (some ⟨b, 0, none⟩) n n) = w5 at HA5 HX5 HQ5 HM5 ⊢
 generalize hxs : Hp.cutAt z29 l i = xs at HQ5 HCL
 have HXS := Lib.hid hxs; clear hxs
 by_cases hin : i < n
 ·have hin2 : (i : Int) < (n : Int) := by omega
  have HD5 := queue_down P g xs i w5 (by have := HCL.out; omega) (by have := HCL.out; omega) HQ5.out
  go_wp2_with (go_at_call 45; refine HD5.mono ?_; rintro e w6 ⟨rfl, hq6, hm6⟩; have HQ6 := Lib.hid hq6; have HM6 := Lib.hid hm6; clear hq6 hm6)
  have HM56 := Lib.hid (HM5.out.then_ HM6.out (fun _ h => .inl h))
  have HA6 := Lib.hid (HM6.out.blk HA5.out hPs)
  have HX6 := Lib.hid (HM6.out.blk HX5.out hPs1)
  clear HM5 HM6 HA5 HX5 HQ5
  have HU6 := queue_up P g (Hp.down z29 tm_lt xs.length xs i) i w6 (by rw [(Hp.down_both z29 tm_lt xs.length xs i (by have := HCL.out; omega)).1]; have := HCL.out; omega) HQ6.out
  go_upto_region 8 with (go_at_call 71; refine HU6.mono ?_; rintro e w7 ⟨rfl, hq7, hm7⟩; have HQ7 := Lib.hid hq7; have HM7 := Lib.hid hm7; clear hq7 hm7)
  have HMZ := Lib.hid (HM56.out.then_ HM7.out (fun _ h => .inl h))
  have HAZ := Lib.hid (HM7.out.blk HA6.out hPs)
  have HXZ := Lib.hid (HM7.out.blk HX6.out hPs1)
  have HQZ : Hid (HQ P g w7 (Hp.take_ z29 tm_lt l i)) := Lib.hid (by
   unfold Hp.take_
   rw [if_pos (by rw [← HN.out]; exact hin), HXS.out, ← HN.out, ← HCL.out]
   exact HQ7.out)
  clear HM56 HM7 HA6 HX6 HQ6 HQ7 HU6 HD5
  have x0 := blk_cell HXZ.out 0
  have x1 := blk_cell HXZ.out 1
  have x2 := blk_cell HXZ.out 2
  have x3 := blk_cell HXZ.out 3
  have a0 := blk_cell HAZ.out 0
  have a1 := blk_cell HAZ.out 1
  have a2 := blk_cell HAZ.out 2
  have a3 := blk_cell HAZ.out 3
  have b0 := blk_frozen HAZ.out 0
  have b1 := blk_frozen HAZ.out 1
  have b2 := blk_frozen HAZ.out 2
  have b3 := blk_frozen HAZ.out 3
  simp only [List.getElem?_toArray, List.getElem?_cons_zero, List.getElem?_cons_succ] at x0 x1 x2 x3 a0 a1 a2 a3
  obtain ⟨hqz, hmz⟩ := HQZ.out.set4 HMZ.out hPs (by rw [HS.out]; exact Nat.le_refl _) (.int .i64 x.f0) (.int .i64 x.f1) (.int .u8 x.f2) (.int .i64 x.f3)
  have HQE := Lib.hid hqz
  have HME := Lib.hid hmz
  clear hqz hmz
  go_wp2
  refine bodyPost_ret (v := .agg #[.int .i64 x.f0, .int .i64 x.f1, .int .u8 x.f2, .int .i64 x.f3]) (by simp [results, Try.results65, go_sem, a0, a1, a2, a3, b0, b1, b2, b3]) rfl ⟨rfl, HQE.out, HME.out⟩
 ·have hin2 : ¬ (i : Int) < (n : Int) := by omega
  go_upto_region 8 with (fail)
  have HMZ := HM5
  have HAZ := HA5
  have HXZ := HX5
  have HQZ : Hid (HQ P g w5 (Hp.take_ z29 tm_lt l i)) := Lib.hid (by
   unfold Hp.take_
   rw [if_neg (by rw [← HN.out]; exact hin), HXS.out]
   exact HQ5.out)
  have x0 := blk_cell HXZ.out 0
  have x1 := blk_cell HXZ.out 1
  have x2 := blk_cell HXZ.out 2
  have x3 := blk_cell HXZ.out 3
  have a0 := blk_cell HAZ.out 0
  have a1 := blk_cell HAZ.out 1
  have a2 := blk_cell HAZ.out 2
  have a3 := blk_cell HAZ.out 3
  have b0 := blk_frozen HAZ.out 0
  have b1 := blk_frozen HAZ.out 1
  have b2 := blk_frozen HAZ.out 2
  have b3 := blk_frozen HAZ.out 3
  simp only [List.getElem?_toArray, List.getElem?_cons_zero, List.getElem?_cons_succ] at x0 x1 x2 x3 a0 a1 a2 a3
  obtain ⟨hqz, hmz⟩ := HQZ.out.set4 HMZ.out hPs (by rw [HS.out]; exact Nat.le_refl _) (.int .i64 x.f0) (.int .i64 x.f1) (.int .u8 x.f2) (.int .i64 x.f3)
  have HQE := Lib.hid hqz
  have HME := Lib.hid hmz
  clear hqz hmz
  go_wp2
  refine bodyPost_ret (v := .agg #[.int .i64 x.f0, .int .i64 x.f1, .int .u8 x.f2, .int .i64 x.f3]) (by simp [results, Try.results65, go_sem, a0, a1, a2, a3, b0, b1, b2, b3]) rfl ⟨rfl, HQE.out, HME.out⟩

/-! ### heap_Queue_Cancel: function 47, by hand -/
theorem take_new {w : World} (o : Obj) : (w.alloc o).heap[w.heap.size]? = some o := by
 show (w.heap.push o)[w.heap.size]? = _
 rw [Array.getElem?_push, if_pos rfl]
set_option maxHeartbeats 2000000 in
set_option maxRecDepth 100000 in
theorem queue_pop (P : Nat → Prop) (g : Nat) (l : List S29) (w : World) (hL : l.length ≤ 4398046511104) (hP : ∀ k, P k → k < w.heap.size) (hq : HQ P g w l) :
  Calls Try.prog 55 #[.pointer (some ⟨g, 0, none⟩)] w fun e w' => e = .returned (.tuple #[.agg #[.int .i64 (Hp.g z29 l 0).f0, .int .i64 (Hp.g z29 l 0).f1, .int .u8 (Hp.g z29 l 0).f2, .int .i64 (Hp.g z29 l 0).f3], .int .i64 (if l.length = 0 then 3 else 0)]) ∧ HQ P g w' (if l.length = 0 then [] else Hp.take_ z29 tm_lt l 0) ∧ Mv P w w' := by
 have hu := Try.underlying29
 obtain ⟨hPg, v, hrow, hPv, htr⟩ := hq
 obtain ⟨A, c, rfl, hlc⟩ := htr.slice
 have hgw : g < w.heap.size := blk_lt hrow
 have hc := blk_cell hrow 0
 simp only [List.getElem?_toArray, List.getElem?_cons_zero] at hc
 have hne : g ≠ w.heap.size := by omega
 have HQ0 := Lib.hid (show HQ P g w l from ⟨hPg, _, hrow, hPv, htr⟩)
 have hPs : ¬ P w.heap.size := fun h => by have := hP _ h; omega
 clear hrow htr hPv
 by_cases h0 : l.length = 0
 ·obtain rfl : l = [] := List.eq_nil_of_length_eq_zero h0
  have HB := below_alloc (Below.refl w.heap.size w) (.cells #[.int .i64 0, .int .i64 0, .int .u8 0, .int .i64 0] 29)
  have HQ1 := Lib.hid (HQ0.out.below HB)
  have HM1 := Lib.hid (Mv.of_below HB P)
  clear HB
  simp only [List.length_nil] at hc
  go_enter Try.func55, Try.ntmps55
  go_wp2
  refine bodyPost_ret (v := .tuple #[.agg #[.int .i64 0, .int .i64 0, .int .u8 0, .int .i64 0], .int .i64 3]) (by simp [results, Try.results55, go_sem]) rfl ⟨rfl, HQ1.out, HM1.out⟩
 ·have HT := queue_take P g l 0 (w.alloc (.cells #[.int .i64 0, .int .i64 0, .int .u8 0, .int .i64 0] 29)) (by omega) hL (fun k hk => by have := hP k hk; simp; omega) (HQ0.out.below (below_alloc (Below.refl _ _) _))
  have hA := take_new (w := w) (.cells #[.int .i64 0, .int .i64 0, .int .u8 0, .int .i64 0] 29)
  have HM1 := Mv.of_below (below_alloc (Below.refl w.heap.size w) (.cells #[.int .i64 0, .int .i64 0, .int .u8 0, .int .i64 0] 29)) P
  rw [if_neg h0, if_neg h0]
  have d0 : ((l.length : Int) == 0) = false := beq_eq_false_iff_ne.mpr (by omega)
  have d1 : ((l.length : Int) = 0) = False := eq_false (by omega)
  generalize Hp.g z29 l 0 = x at HT ⊢
  generalize Hp.take_ z29 tm_lt l 0 = l2 at HT ⊢
  have HA := Lib.hid hA; clear hA
  have HM := Lib.hid HM1; clear HM1
  obtain ⟨s, hs⟩ : ∃ s, s = w.heap.size := ⟨_, rfl⟩
  have HS := Lib.hid hs
  go_enter Try.func55, Try.ntmps55
  clear hs
  go_wp2_with (go_at_call 65; refine HT.mono ?_; rintro e w3 ⟨rfl, hq3, hm3⟩; have HA3 := Lib.hid (hm3.blk HA.out hPs); have HQ3 := Lib.hid hq3; have HM3 := Lib.hid (HM.out.then_ hm3 (fun _ h => .inl h)); clear hq3 hm3; have a0 := blk_cell HA3.out 0; have a1 := blk_cell HA3.out 1; have a2 := blk_cell HA3.out 2; have a3 := blk_cell HA3.out 3; have b0 := blk_frozen HA3.out 0; have b1 := blk_frozen HA3.out 1; have b2 := blk_frozen HA3.out 2; have b3 := blk_frozen HA3.out 3; simp only [List.getElem?_toArray, List.getElem?_cons_zero, List.getElem?_cons_succ] at a0 a1 a2 a3)
  obtain ⟨hqz, hmz⟩ := HQ3.out.set4 HM3.out hPs (Nat.le_refl _) (.int .i64 x.f0) (.int .i64 x.f1) (.int .u8 x.f2) (.int .i64 x.f3)
  refine bodyPost_ret (v := .tuple #[.agg #[.int .i64 x.f0, .int .i64 x.f1, .int .u8 x.f2, .int .i64 x.f3], .int .i64 0]) (by simp [results, Try.results55, go_sem, a0, a1, a2, a3, b0, b1, b2, b3]) rfl ⟨rfl, hqz, hmz⟩
theorem hp_find_lt (seq : Int) (l : List S29) (h : 0 ≤ hp_find seq l) : (hp_find seq l).toNat < l.length := by
 letI : Inhabited S29 := ⟨z29⟩
 have gen : ∀ (l : List S29) (i : Nat), Lib.idxByFrom (fun _ y => hp_is seq y) z29 l i = -1 ∨ (i : Int) ≤ Lib.idxByFrom (fun _ y => hp_is seq y) z29 l i ∧ Lib.idxByFrom (fun _ y => hp_is seq y) z29 l i < (i : Int) + l.length := by
  intro l
  induction l with
  | nil => intro i; exact .inl rfl
  | cons y l ih =>
   intro i
   simp only [Lib.idxByFrom]
   split
   ·right; simp; omega
   ·rcases ih (i + 1) with h | ⟨h1, h2⟩
    ·exact .inl h
    ·right
     simp only [List.length_cons]
     omega
 have h2 := gen l 0
 unfold hp_find Lib.idxBy at *
 omega
set_option maxHeartbeats 2000000 in
set_option maxRecDepth 100000 in
theorem queue_cancel (P : Nat → Prop) (g : Nat) (l : List S29) (seq : Int) (w : World) (hL : l.length ≤ 4398046511104) (hP : ∀ k, P k → k < w.heap.size) (hq : HQ P g w l) :
  Calls Try.prog 47 #[.pointer (some ⟨g, 0, none⟩), .int .i64 seq] w fun e w' => ∃ x : S29, (x = if hp_find seq l < 0 then z29 else Hp.g z29 l (hp_find seq l).toNat) ∧ e = .returned (.tuple #[.agg #[.int .i64 x.f0, .int .i64 x.f1, .int .u8 x.f2, .int .i64 x.f3], .int .i64 (if hp_find seq l < 0 then 3 else 0)]) ∧ HQ P g w' (if hp_find seq l < 0 then l else Hp.take_ z29 tm_lt l (hp_find seq l).toNat) ∧ Mv P w w' := by
 have hu := Try.underlying29
 have hgw : g < w.heap.size := by obtain ⟨_, v, hrow, _⟩ := hq; exact blk_lt hrow
 have hne : g ≠ w.heap.size := by omega
 have hPs : ¬ P w.heap.size := fun h => by have := hP _ h; omega
 have hA := take_new (w := w) (.cells #[.int .i64 0, .int .i64 0, .int .u8 0, .int .i64 0] 29)
 have hbl := (below_alloc (Below.refl w.heap.size w) (.cells #[.int .i64 0, .int .i64 0, .int .u8 0, .int .i64 0] 29))
 have HF := queue_find P g l seq (w.alloc (.cells #[.int .i64 0, .int .i64 0, .int .u8 0, .int .i64 0] 29)) (hq.below hbl)
 have HTT := fun (i : Nat) (hi : i < l.length) (W : World) (hW : Below (w.alloc (.cells #[.int .i64 0, .int .i64 0, .int .u8 0, .int .i64 0] 29)).heap.size (w.alloc (.cells #[.int .i64 0, .int .i64 0, .int .u8 0, .int .i64 0] 29)) W) => queue_take P g l i W hi hL (fun k hk => by have := hP k hk; have := hW.size; simp at this; omega) ((hq.below hbl).below hW)
 have HQ1 := Lib.hid (hq.below hbl)
 have HM := Lib.hid (Mv.of_below hbl P)
 have HA := Lib.hid hA
 clear hA hq
 by_cases hf : hp_find seq l < 0
 ·rw [if_pos hf, if_pos hf, if_pos hf]
  generalize hp_find seq l = r at HF hf
  have d0 : decide (r < 0) = true := decide_eq_true hf
  go_enter Try.func47, Try.ntmps47
  go_wp2_with (go_at_call 64; refine HF.mono ?_; rintro e w3 ⟨rfl, hb3⟩; have HA3 := Lib.hid ((hb3.block _ (blk_lt HA.out)).trans HA.out); have HQ3 := Lib.hid (HQ1.out.below hb3); have HM3 := Lib.hid (HM.out.below hb3); clear hb3; have a0 := blk_cell HA3.out 0; have a1 := blk_cell HA3.out 1; have a2 := blk_cell HA3.out 2; have a3 := blk_cell HA3.out 3; have b0 := blk_frozen HA3.out 0; have b1 := blk_frozen HA3.out 1; have b2 := blk_frozen HA3.out 2; have b3 := blk_frozen HA3.out 3; simp only [List.getElem?_toArray, List.getElem?_cons_zero, List.getElem?_cons_succ] at a0 a1 a2 a3)
  obtain ⟨hqz, hmz⟩ := HQ3.out.set4 HM3.out hPs (Nat.le_refl _) (.int .i64 0) (.int .i64 0) (.int .u8 0) (.int .i64 0)
  refine bodyPost_ret (v := .tuple #[.agg #[.int .i64 0, .int .i64 0, .int .u8 0, .int .i64 0], .int .i64 3]) (by simp [results, Try.results47, go_sem, a0, a1, a2, a3, b0, b1, b2, b3]) rfl ⟨_, rfl, rfl, hqz, hmz⟩
 ·have hidx := hp_find_lt seq l (by omega)
  rw [if_neg hf, if_neg hf, if_neg hf]
  obtain ⟨i, hi⟩ : ∃ i : Nat, hp_find seq l = (i : Int) := ⟨(hp_find seq l).toNat, by omega⟩
  rw [hi] at HF hf hidx ⊢
  clear hi
  simp only [Int.toNat_natCast] at hidx ⊢
  have HT2 := fun W hW => HTT i hidx W hW
  clear HTT
  generalize Hp.g z29 l i = x at HT2 ⊢
  generalize Hp.take_ z29 tm_lt l i = l2 at HT2 ⊢
  have d0 : decide ((i : Int) < 0) = false := decide_eq_false (by omega)
  have d1 : ¬ ((i : Int) < 0) := by omega
  go_enter Try.func47, Try.ntmps47
  go_upto_region 4 with (go_at_call 64; refine HF.mono ?_; rintro e w2 ⟨rfl, hb2⟩; have HB2 := Lib.hid hb2; clear hb2)
  have HTW := HT2 _ HB2.out
  have HA2 := Lib.hid ((HB2.out.block _ (blk_lt HA.out)).trans HA.out)
  have HM2 := Lib.hid (HM.out.below HB2.out)
  clear HT2 HF HB2 HM HA
  go_wp2_with (go_at_call 65; refine HTW.mono ?_; rintro e w3 ⟨rfl, hq3, hm3⟩; have HA3 := Lib.hid (hm3.blk HA2.out hPs); have HQ3 := Lib.hid hq3; have HM3 := Lib.hid (HM2.out.then_ hm3 (fun _ h => .inl h)); clear hq3 hm3; have a0 := blk_cell HA3.out 0; have a1 := blk_cell HA3.out 1; have a2 := blk_cell HA3.out 2; have a3 := blk_cell HA3.out 3; have b0 := blk_frozen HA3.out 0; have b1 := blk_frozen HA3.out 1; have b2 := blk_frozen HA3.out 2; have b3 := blk_frozen HA3.out 3; simp only [List.getElem?_toArray, List.getElem?_cons_zero, List.getElem?_cons_succ] at a0 a1 a2 a3)
  obtain ⟨hqz, hmz⟩ := HQ3.out.set4 HM3.out hPs (Nat.le_refl _) (.int .i64 x.f0) (.int .i64 x.f1) (.int .u8 x.f2) (.int .i64 x.f3)
  refine bodyPost_ret (v := .tuple #[.agg #[.int .i64 x.f0, .int .i64 x.f1, .int .u8 x.f2, .int .i64 x.f3], .int .i64 0]) (by simp [results, Try.results47, go_sem, a0, a1, a2, a3, b0, b1, b2, b3]) rfl ⟨x, rfl, rfl, hqz, hmz⟩

-- PXIMPORT Derived.BigRegion
/-! ### heap_Cancel: function 15, by hand -/
def heap_fit {α : Type} (l0 : List (S29)) (o : Option α) : Option α := if l0.length < 4398046511104 then o else none
theorem heap_fit_some {α : Type} {l0 : List (S29)} {o : Option α} {r : α} (h : heap_fit l0 o = some r) : l0.length < 4398046511104 ∧ o = some r := by
 unfold heap_fit at h
 split at h
 ·rename_i hl; exact ⟨hl, h⟩
 ·cases h
theorem heap_fit_le {α : Type} {l0 : List (S29)} {o o' : Option α} (h : LeO o o') : LeO (heap_fit l0 o) (heap_fit l0 o') := LeO.ite h (LeO.none _)
/-- The flat form of a heap, a timer and why. -/
def heap_three (l : List (S29)) (x : S29) (why : Int) : List (S29) × Int × Int × Int × Int × Int := (l, x.f0, x.f1, x.f2, x.f3, why)
def heap_Cancel.f (k : Nat) (l0 : List (S29)) (a1 : Int) : Option (List (S29) × Int × Int × Int × Int × Int) := heap_fit l0 ((heap_Check.f k l0).bind fun why => some (if why = 0 then heap_three (if hp_find a1 l0 < 0 then l0 else Hp.take_ z29 tm_lt l0 (hp_find a1 l0).toNat) (if hp_find a1 l0 < 0 then z29 else Hp.g z29 l0 (hp_find a1 l0).toNat) (if hp_find a1 l0 < 0 then 3 else 0) else heap_three [] z29 why))
theorem heap_Cancel.mono : ∀ a0 a1 k, LeO (heap_Cancel.f k a0 a1) (heap_Cancel.f (k + 1) a0 a1) := fun a0 a1 k => heap_fit_le (LeO.bind (heap_Check.mono _ _) (fun _ => LeO.refl _))
set_option maxHeartbeats 2000000 in
set_option maxRecDepth 100000 in
theorem heap_Cancel.calls (k : Nat) (A0 : Option Addr) (c0 : Nat) (l0 : List (S29)) (a1 : Int) (r1 : List (S29)) (r2 : Int) (r3 : Int) (r4 : Int) (r5 : Int) (r6 : Int) (w : World) (hr0 : Kd.C k29 w A0 l0.length l0) (hc0 : l0.length ≤ c0) (h : heap_Cancel.f k l0 a1 = some (r1, r2, r3, r4, r5, r6)) :
  Calls Try.prog 15 #[.slice A0 l0.length c0, .int .i64 a1] w fun e w' => ∃ v0_ : Value, e = .returned (.tuple #[v0_, .agg #[.int .i64 r2, .int .i64 r3, .int .u8 r4, .int .i64 r5], .int .i64 r6]) ∧ Kd.V k29 29 w' w.heap.size (fun k_ => (w.heap.size ≤ k_)) v0_ r1 ∧ Below w.heap.size w w' := by
 have hu := Try.underlying29
 have hu2 := Try.underlying62
 obtain ⟨hlen, h⟩ := heap_fit_some h
 obtain ⟨why, hch, h⟩ := Option.bind_eq_some_iff.mp h
 have hbl := below_alloc (Below.refl w.heap.size w) (.cells #[.int .i64 0, .int .i64 0, .int .u8 0, .int .i64 0] 29)
 have HO := heap_Open k A0 c0 l0 why (w.alloc (.cells #[.int .i64 0, .int .i64 0, .int .u8 0, .int .i64 0] 29)) (Kd.C_below hr0 hbl) hc0 hch hlen
 have HA := Lib.hid (blk_new w (.cells #[.int .i64 0, .int .i64 0, .int .u8 0, .int .i64 0] 29))
 have HBL := Lib.hid hbl
 clear hr0 hch hbl
 have H := Option.some.inj h
 clear h
 by_cases c : why = 0
 rotate_left
 ·rw [if_neg c] at H
  rw [if_neg c] at HO
  have d : (why != 0) = true := bne_iff_ne.mpr c
  unfold heap_three at H
  simp only [Prod.mk.injEq] at H
  obtain ⟨rfl, rfl, rfl, rfl, rfl, rfl⟩ := H
  go_enter Try.func15, Try.ntmps15
  go_wp2_with (go_at_call 46; refine HO.mono ?_; rintro e w3 ⟨g, rfl, hq3, hb3⟩; have HA3 := Lib.hid ((hb3.block _ (blk_lt HA.out)).trans HA.out); have HB3 := Lib.hid (below_then HBL.out HBL.out.size hb3); clear hb3 hq3; have a0 := blk_cell HA3.out 0; have a1 := blk_cell HA3.out 1; have a2 := blk_cell HA3.out 2; have a3 := blk_cell HA3.out 3; have b0 := blk_frozen HA3.out 0; have b1 := blk_frozen HA3.out 1; have b2 := blk_frozen HA3.out 2; have b3 := blk_frozen HA3.out 3; simp only [List.getElem?_toArray, List.getElem?_cons_zero, List.getElem?_cons_succ] at a0 a1 a2 a3)
  refine bodyPost_ret (v := .tuple #[.slice none 0 0, .agg #[.int .i64 0, .int .i64 0, .int .u8 0, .int .i64 0], .int .i64 why]) (by simp [results, Try.results15, go_sem, a0, a1, a2, a3, b0, b1, b2, b3]) rfl ⟨_, rfl, Kd.V_nil _ _ _ _ _, ?_⟩
  exact (((HB3.out.setCell (p := ⟨w.heap.size, 0, none⟩) (Nat.le_refl _) _).setCell (p := ⟨w.heap.size, 1, none⟩) (Nat.le_refl _) _).setCell (p := ⟨w.heap.size, 2, none⟩) (Nat.le_refl _) _).setCell (p := ⟨w.heap.size, 3, none⟩) (Nat.le_refl _) _
 ·rw [if_pos c] at H HO
  subst c
  unfold heap_three at H
  simp only [Prod.mk.injEq] at H
  go_enter Try.func15, Try.ntmps15
  go_upto_region 4 with (go_at_call 46; refine HO.mono ?_; rintro e w3 ⟨g, rfl, hq3, hb3⟩; have HA3 := Lib.hid ((hb3.block _ (blk_lt HA.out)).trans HA.out); have HB3 := Lib.hid (below_then HBL.out HBL.out.size hb3); have HQ3 := Lib.hid hq3; have HZ3 := Lib.hid hb3.size; clear hb3 hq3)
  have hlen2 : l0.length ≤ 4398046511104 := by omega
  have HP := queue_cancel _ g l0 a1 w3 hlen2 (fun k hk => hk.2) HQ3.out
  generalize hxx : (if hp_find a1 l0 < 0 then z29 else Hp.g z29 l0 (hp_find a1 l0).toNat) = x at HP H
  generalize (if hp_find a1 l0 < 0 then l0 else Hp.take_ z29 tm_lt l0 (hp_find a1 l0).toNat) = l2 at HP H
  generalize (if hp_find a1 l0 < 0 then (3 : Int) else 0) = y at HP H
  obtain ⟨rfl, rfl, rfl, rfl, rfl, rfl⟩ := H
  clear hxx
  have hnP : ¬ ((w.alloc (.cells #[.int .i64 0, .int .i64 0, .int .u8 0, .int .i64 0] 29)).heap.size ≤ w.heap.size ∧ w.heap.size < w3.heap.size) := fun h => by have h1 := h.1; rw [show (w.alloc (.cells #[.int .i64 0, .int .i64 0, .int .u8 0, .int .i64 0] 29)).heap.size = w.heap.size + 1 from Array.size_push _] at h1; omega
  go_upto_region 5 with (go_at_call 47; refine HP.mono ?_; rintro e w5 ⟨x_, hx_, rfl, hq5, hm5⟩; obtain rfl : x = x_ := hx_.symm; have HQ5 := Lib.hid hq5; have HM5 := Lib.hid hm5; clear hq5 hm5)
  have HA5 := Lib.hid (HM5.out.blk HA3.out hnP)
  obtain ⟨w6, hw6⟩ : ∃ w6, w6 = w5.alloc (.cells #[.int .i64 x.f0, .int .i64 x.f1, .int .u8 x.f2, .int .i64 x.f3] 29) := ⟨_, rfl⟩
  rw [← hw6]
  have hb56 : Below w5.heap.size w5 w6 := by rw [hw6]; exact below_alloc (Below.refl _ _) _
  have HX6 : Hid (w6.heap[w5.heap.size]? = some (.cells #[.int .i64 x.f0, .int .i64 x.f1, .int .u8 x.f2, .int .i64 x.f3] 29 (0, 0))) := Lib.hid (by rw [hw6]; exact blk_new _ _)
  have HQ6 := Lib.hid (HQ5.out.below hb56)
  have HM6 := Lib.hid (HM5.out.below hb56)
  have HA6 := Lib.hid ((hb56.block _ (blk_lt HA5.out)).trans HA5.out)
  have hg5 : g < w5.heap.size := by obtain ⟨_, v, hrow, _⟩ := HQ5.out; exact blk_lt hrow
  have hs5 : w.heap.size < w5.heap.size := blk_lt HA5.out
  have hgs : g ≠ w.heap.size := fun e => by have h1 := HQ5.out.1.1; rw [show (w.alloc (.cells #[.int .i64 0, .int .i64 0, .int .u8 0, .int .i64 0] 29)).heap.size = w.heap.size + 1 from Array.size_push _] at h1; omega
  clear hw6 hb56 HQ5 HM5 HA5 HA3 HP HO HA HQ3
  obtain ⟨hPg, v, hrow, hPv, htr⟩ := HQ6.out
  obtain ⟨A7, c7, rfl, hlc7⟩ := htr.slice
  have HROW := Lib.hid hrow
  have hc := blk_cell hrow 0
  have HA3 := HA6
  have a0 := blk_cell HA3.out 0
  have a1 := blk_cell HA3.out 1
  have a2 := blk_cell HA3.out 2
  have a3 := blk_cell HA3.out 3
  have b0 := blk_frozen HA3.out 0
  have b1 := blk_frozen HA3.out 1
  have b2 := blk_frozen HA3.out 2
  have b3 := blk_frozen HA3.out 3
  simp only [List.getElem?_toArray, List.getElem?_cons_zero, List.getElem?_cons_succ] at a0 a1 a2 a3
  have x0 := blk_cell HX6.out 0
  have x1 := blk_cell HX6.out 1
  have x2 := blk_cell HX6.out 2
  have x3 := blk_cell HX6.out 3
  simp only [List.getElem?_toArray, List.getElem?_cons_zero, List.getElem?_cons_succ] at x0 x1 x2 x3 hc
  have n1 : w5.heap.size ≠ w.heap.size := by omega
  clear hrow hPv htr
  go_big_region
  all_goals
   go_wp2
   refine bodyPost_ret (v := .tuple #[.slice A7 l2.length c7, .agg #[.int .i64 x.f0, .int .i64 x.f1, .int .u8 x.f2, .int .i64 x.f3], .int .i64 y]) (by simp [results, Try.results15, go_sem, a0, a1, a2, a3, b0, b1, b2, b3]) rfl ⟨_, rfl, ?_, ?_⟩
   ·have hv := HQ6.out.toV (B := w.heap.size + 1) HROW.out (fun k hk => by have h1 := hk.1; rw [show (w.alloc (.cells #[.int .i64 0, .int .i64 0, .int .u8 0, .int .i64 0] 29)).heap.size = w.heap.size + 1 from Array.size_push _] at h1; omega)
    have hv2 := Kd.V_drew (Kd.V_far (p := ⟨w.heap.size, 3, none⟩) (Kd.V_far (p := ⟨w.heap.size, 2, none⟩) (Kd.V_far (p := ⟨w.heap.size, 1, none⟩) (Kd.V_far (p := ⟨w.heap.size, 0, none⟩) hv (fun k hk => by simp only; omega) (.int .i64 x.f0)) (fun k hk => by simp only; omega) (.int .i64 x.f1)) (fun k hk => by simp only; omega) (.int .u8 x.f2)) (fun k hk => by simp only; omega) (.int .i64 x.f3))
    exact Kd.V_mono hv2 (fun k hk => by omega)
   ·have hb6 := HB3.out.trans (HM6.out.under (B := w.heap.size) HB3.out.size (fun k hk => by have h1 := hk.1; rw [show (w.alloc (.cells #[.int .i64 0, .int .i64 0, .int .u8 0, .int .i64 0] 29)).heap.size = w.heap.size + 1 from Array.size_push _] at h1; omega))
    exact below_drew1 ((((hb6.setCell (p := ⟨w.heap.size, 0, none⟩) (Nat.le_refl _) (.int .i64 x.f0)).setCell (p := ⟨w.heap.size, 1, none⟩) (Nat.le_refl _) (.int .i64 x.f1)).setCell (p := ⟨w.heap.size, 2, none⟩) (Nat.le_refl _) (.int .u8 x.f2)).setCell (p := ⟨w.heap.size, 3, none⟩) (Nat.le_refl _) (.int .i64 x.f3))


-- NOT PRINTED: function 77 (api_Timer_77)

-- NOT PRINTED: function 96 (api_Timer_96)

-- NOT PRINTED: function 78 (api_Timer_78)

-- NOT PRINTED: function 79 (api_Timer_79)

-- NOT PRINTED: function 104 (api_Timer_104)

-- NOT PRINTED: function 100 (api_Timer_100)

-- NOT PRINTED: function 99 (api_Timer_99)

-- NOT PRINTED: function 80 (api_Timer_80)

-- NOT PRINTED: function 81 (api_Timer_81)

-- NOT PRINTED: function 82 (api_Timer_82)

-- NOT PRINTED: function 83 (api_Timer_83)

-- NOT PRINTED: function 84 (api_Timer_84)

-- NOT PRINTED: function 67 (api_Timer_67)

-- PXIMPORT YtlpbolkbdcgmnaaGSort
-- PXIMPORT YtlpbolkbdcgmnaaGLayT
-- PXIMPORT YtlpbolkbdcgmnaaQHeapS
/-! ### api_Timer_52: function 52, by hand -/
theorem tm_or_f (x y : Int) : cmp_Or_int.f 3 [x, y] = some (if x = 0 then y else x) := by
 unfold cmp_Or_int.f
 by_cases h : x = 0
 ·subst h
  by_cases h2 : y = 0
  ·subst h2; simp [cmp_Or_int.l0, rd, wrap64]
  ·simp [cmp_Or_int.l0, rd, wrap64, h2]
 ·simp [cmp_Or_int.l0, rd, wrap64, h]
set_option maxHeartbeats 1000000 in
set_option maxRecDepth 100000 in
theorem tm_cmp1 (x y : S29) (w : World) : Calls Try.prog 53 #[.agg #[.int .i64 x.f0, .int .i64 x.f1, .int .u8 x.f2, .int .i64 x.f3], .agg #[.int .i64 y.f0, .int .i64 y.f1, .int .u8 y.f2, .int .i64 y.f3]] w fun e w' => e = .returned (.int .i64 (tm_cf x y)) ∧ ∃ q os', w' = Go.Sort.grow (w.drewN q) os' := by
 have hu := Try.underlying29
 have hc1 := fun W' => AnyG.cmp_Compare_int Try.lay_cmp64 x.f0 y.f0 W'
 change ∀ W', Calls Try.prog 70 _ _ _ at hc1
 have hc2 := fun W' => AnyG.cmp_Compare_int Try.lay_cmp64 x.f1 y.f1 W'
 change ∀ W', Calls Try.prog 70 _ _ _ at hc2
 have hcf : tm_cf x y = if Lib.compareInt x.f0 y.f0 = 0 then Lib.compareInt x.f1 y.f1 else Lib.compareInt x.f0 y.f0 := by
  unfold tm_cf Lib.compareInt
  repeat' split
  all_goals omega
 have hor := tm_or_f (Lib.compareInt x.f0 y.f0) (Lib.compareInt x.f1 y.f1)
 rw [← hcf] at hor
 clear hcf
 generalize tm_cf x y = r at hor ⊢
 generalize Lib.compareInt x.f0 y.f0 = r1 at hc1 hor
 generalize Lib.compareInt x.f1 y.f1 = r2 at hc2 hor
 have HOR := Lib.hid hor
 clear hor
 go_enter Try.func53, Try.ntmps53
 go_wp2_with fail
 obtain ⟨W2, hW2⟩ : ∃ W2, W2 = (w.alloc (.cells #[.int .i64 x.f0, .int .i64 x.f1, .int .u8 x.f2, .int .i64 x.f3] 29)).alloc (.cells #[.int .i64 y.f0, .int .i64 y.f1, .int .u8 y.f2, .int .i64 y.f3] 29) := ⟨_, rfl⟩
 rw [← hW2]
 have hA : W2.heap[w.heap.size]? = some (.cells #[.int .i64 x.f0, .int .i64 x.f1, .int .u8 x.f2, .int .i64 x.f3] 29) := by rw [hW2]; exact ((below_alloc (Below.refl _ _) _).block _ (by simp)).trans (blk_new w _)
 have hB : W2.heap[w.heap.size + 1]? = some (.cells #[.int .i64 y.f0, .int .i64 y.f1, .int .u8 y.f2, .int .i64 y.f3] 29) := by rw [hW2]; exact blk_new (w.alloc (.cells #[.int .i64 x.f0, .int .i64 x.f1, .int .u8 x.f2, .int .i64 x.f3] 29)) _ |>.symm ▸ by simp
 have a0 := blk_cell hA 0
 have a1 := blk_cell hA 1
 have b0 := blk_cell hB 0
 have b1 := blk_cell hB 1
 simp only [List.getElem?_toArray, List.getElem?_cons_zero, List.getElem?_cons_succ] at a0 a1 b0 b1
 clear hA hB
 have HW2 := Lib.hid hW2
 clear hW2
 refine wp_region_still_tail 10 (by kernel_rfl) (by kernel_rfl) ?_
 simp only [List.take_succ_cons, List.take_zero, List.drop_succ_cons, List.drop_zero]
 iterate 4 still_step
 still_call (hc1 _)
 iterate 4 still_step
 still_call (hc2 _)
 refine wpStill_nil ?_
 change wpList _ _ _ _ _ W2.drew
 have HCO : Calls Try.prog 69 #[.slice (some ⟨W2.heap.size, 0, none⟩) 2 2] ((W2.alloc (.cells #[.int .i64 r1, .int .i64 r2] 3)).drew) fun e w' => e = .returned (.int .i64 r) ∧ ∃ n, w' = ((W2.alloc (.cells #[.int .i64 r1, .int .i64 r2] 3)).drew).drewN n := by
  have hnew := blk_new W2 (.cells #[.int .i64 r1, .int .i64 r2] 3)
  refine (cmp_Or_int.calls 3 (some ⟨W2.heap.size, 0, none⟩) 2 [r1, r2] _ _ ⟨rfl, by simp, fun _ => ⟨_, rfl, fun j p hj => ?_⟩⟩ (Nat.le_refl _) HOR.out).mono (fun e w' h => ⟨h.1, h.2.out⟩)
  have hc : ∀ k, ((W2.alloc (.cells #[.int .i64 r1, .int .i64 r2] 3)).drew).cell? ⟨W2.heap.size, k, none⟩ = #[Value.int .i64 r1, Value.int .i64 r2][k]? := fun k => blk_cell hnew k
  refine ⟨[.int .i64 p], rfl, rfl, fun t u hu => ?_⟩
  have ht : t = 0 := by have := (List.getElem?_eq_some_iff.1 hu).1; simp at this; exact this
  subst ht
  rw [Addr.add_lit, hc]
  have hu2 : Value.int .i64 p = u := by simpa using hu
  rw [← hu2]
  show #[Value.int .i64 r1, Value.int .i64 r2][0 + (j * 1 + 0)]? = _
  rw [show 0 + (j * 1 + 0) = j by omega]
  match j, hj with
  | 0, hj => simp at hj; subst hj; rfl
  | 1, hj => simp at hj; subst hj; rfl
  | j + 2, hj => simp at hj
 go_wp2_with (go_at_call 69; refine HCO.mono ?_; rintro e w5 ⟨rfl, n, rfl⟩)
 go_ret
 refine ⟨rfl, ?_⟩
 refine ⟨1 + n, #[Obj.cells #[.int .i64 x.f0, .int .i64 x.f1, .int .u8 x.f2, .int .i64 x.f3] 29, Obj.cells #[.int .i64 y.f0, .int .i64 y.f1, .int .u8 y.f2, .int .i64 y.f3] 29, Obj.cells #[.int .i64 r1, .int .i64 r2] 3], ?_⟩
 rw [HW2.out, Go.Sort.alloc_eq_grow, Go.Sort.alloc_eq_grow, Go.Sort.alloc_eq_grow, Go.Sort.grow_grow, Go.Sort.grow_grow]
 have hdg : ∀ (W : World) (os : Array Obj) (n : Nat), (Go.Sort.grow W os).drewN n = Go.Sort.grow (W.drewN n) os := fun _ _ _ => rfl
 rw [hdg]
 rfl
theorem tm_swo2 : Go.Sort.SWO (ltOf tm_cf) where
 irrefl x := by unfold ltOf; rw [tm_cf_lt]; exact tm_swo.irr x
 trans x y z h1 h2 := by unfold ltOf at *; rw [tm_cf_lt] at *; exact tm_swo.tr x y z h1 h2
 ntrans x y z h1 h2 := by unfold ltOf at *; rw [tm_cf_lt] at *; exact tm_swo.le_tr h2 h1
theorem tm_apart {l : List S29} (h : (l.map (·.f1)).Nodup) : Hp.Apart tm_lt l := by
 intro a ha b hb h1 h2
 unfold tm_lt at h1 h2
 simp only [decide_eq_false_iff_not] at h1 h2
 have he : a.f1 = b.f1 := by omega
 have hinj : ∀ (l : List S29), (l.map (·.f1)).Nodup → a ∈ l → b ∈ l → a = b := by
  intro l
  induction l with
  | nil => intro _ h _; cases h
  | cons x l ih =>
   intro hn ha hb
   rw [List.map_cons, List.nodup_cons] at hn
   rcases List.mem_cons.mp ha with rfl | ha2 <;> rcases List.mem_cons.mp hb with rfl | hb2
   ·rfl
   ·exact absurd (List.mem_map.mpr ⟨b, hb2, he.symm⟩) hn.1
   ·exact absurd (List.mem_map.mpr ⟨a, ha2, he⟩) hn.1
   ·exact ih hn.2 ha2 hb2
 exact hinj l h ha hb
theorem tm_sorted (l : List S29) (d' : Array S29) (h : (l.map (·.f1)).Nodup) (hp : @Go.Sort.PermIn S29 ⟨z29⟩ 0 l.toArray.size l.toArray d') (hs : @Go.Sort.SortedIn S29 ⟨z29⟩ (ltOf tm_cf) 0 l.toArray.size d') : d'.toList = Hp.srt tm_lt l := by
 letI : Inhabited S29 := ⟨z29⟩
 have hsz : d'.size = l.toArray.size := hp.1
 refine (Hp.srt_of tm_swo (tm_apart h) ?_ ?_).symm
 ·have h3 := hp.2.2
  rw [← hsz, Array.extract_size] at h3
  rw [hsz, Array.extract_size] at h3
  simpa using h3
 ·unfold Hp.Up
  rw [List.pairwise_iff_getElem]
  intro i j hi hj hij
  have hj' : j < d'.size := by simpa using hj
  have h4 := hs i j (Nat.zero_le _) hij (by rw [← hsz]; exact hj')
  unfold ltOf at h4
  rw [tm_cf_lt, getElem!_pos d' j hj', getElem!_pos d' i (by omega)] at h4
  simpa using h4
def api_Timer_52.f (l0 : List (S29)) : Option (List (S29)) := if l0.length < 4611686018427387904 ∧ (l0.map (·.f1)).Nodup then some (Hp.srt tm_lt l0) else none
theorem api_Timer_52.calls (P0_ : Nat → Prop) (u9000_ : Value) (l0 : List (S29)) (r : List (S29)) (w0 w : World) (hB : Below w0.heap.size w0 w) (ho0 : Kd.R k29 29 w w0.heap.size P0_ u9000_ l0) (h : api_Timer_52.f l0 = some r) :
  Calls Try.prog 52 #[u9000_, .func (.func 53) #[] #[]] w fun e w' => e = .returned (.tuple #[]) ∧ Kd.R k29 29 w' w0.heap.size (fun k_ => (P0_ k_ ∨ w.heap.size ≤ k_)) u9000_ r ∧ Below w0.heap.size w0 w' ∧ Kept w w' (fun k_ => P0_ k_) := by
 letI : Inhabited S29 := ⟨z29⟩
 unfold api_Timer_52.f at h
 split at h
 rotate_left
 ·cases h
 rename_i hcond
 obtain ⟨hsz, hnd⟩ := hcond
 obtain rfl := Option.some.inj h
 clear h
 have hO := ho0
 obtain ⟨hok, inner, ⟨hlen, hor⟩, hreps⟩ := ho0
 rcases hor with ⟨rfl, h0⟩ | ⟨g, cap, cur, rfl, hg, hrow, hnc, hcm, hcs, htake⟩
 ·obtain rfl : l0 = [] := List.eq_nil_of_length_eq_zero h0
  refine (AnyF.slices_SortFunc_none Try.lay_tsort none 0 _ w).mono ?_
  rintro e w' ⟨rfl, rfl⟩
  exact ⟨rfl, Kd.R_nil _ _ _ _ _, hB, Kept.refl _ _⟩
 ·by_cases h0 : l0.length = 0
  ·obtain rfl : l0 = [] := List.eq_nil_of_length_eq_zero h0
   refine (AnyF.slices_SortFunc_none Try.lay_tsort (some ⟨g, 0, none⟩) cap _ w).mono ?_
   rintro e w' ⟨rfl, rfl⟩
   exact ⟨rfl, Kd.R_mono hO (fun _ hk => .inl hk), hB, Kept.refl _ _⟩
  ·have hP : P0_ g := hok g (by simp [Value.ownBlock])
   have hH : Go.Sort.HoldsK tm_enc 4 w g 0 l0.toArray := gs_holds (fun p c hp => k29_openM hp) hreps hrow htake
   have hblk : g < w.heap.size := (Array.getElem?_eq_some_iff.mp hrow).1
   have eg : ∀ args w, (callFunc 53 args).run Try.prog w = .ok (.enter 53 args) w := enters_of Try.func53 (by kernel_rfl) rfl
   have hcon := AnyQ.slices_SortFunc Try.lay_tsort 4 Try.isAgg29 Try.sizeOf29 tm_enc (fun _ => rfl) (fun x v hv => by simp [tm_enc] at hv; rcases hv with rfl | rfl | rfl | rfl <;> rfl) tm_cf tm_swo2 53 #[] g 0 cap l0.toArray w eg (fun _ _ _ _ x y => tm_cmp1 x y _) hH hblk hsz
   refine hcon.mono ?_
   rintro e w' ⟨rfl, d', n, os, hp, hs, hw⟩
   have hd := tm_sorted l0 d' hnd hp hs
   obtain ⟨h1, h2, h3⟩ := gs_done (d := k29) (enc := tm_enc) (ys := d') (fun _ => rfl) (fun x w base ok => k29_mkM w base ok x) hB hg hP hrow hnc hcm hcs (by have := hp.1; simpa using this) hw
   rw [hd] at h1
   exact ⟨rfl, Kd.R_mono h1 (fun _ hk => .inl hk), h2, h3⟩


/-! ### heap_Sorted: function 20 -/
def heap_Sorted.f (k : Nat) (l0 : List (S29)) : Option ((List (S29)) × Int) := (heap_Check.f k l0).bind fun t130 => (if t130 = 0 then ((api_Timer_44.f l0).bind fun t131 => ((api_Timer_52.f t131).bind fun t134 => (some (t134, 0)))) else (some (([] : List (S29)), t130)))
theorem heap_Sorted.mono : ∀ a0 k, LeO (heap_Sorted.f k a0) (heap_Sorted.f (k + 1) a0) := by
 intro a0 k
 unfold heap_Sorted.f
 repeat' first
   | (with_reducible exact heap_Check.mono _ _)
   | (with_reducible exact LeO.refl _)
   | (with_reducible exact LeO.none _)
   | (with_reducible refine LeO.ite ?_ ?_)
   | (with_reducible refine LeO.bind ?_ (fun _ => ?_))
   | exact heap_Check.mono _ _
   | exact LeO.none _
   | refine LeO.ite ?_ ?_
   | refine LeO.bind ?_ (fun _ => ?_)
set_option maxHeartbeats 8000000 in
set_option maxRecDepth 100000 in
theorem heap_Sorted.calls (k : Nat) (A0 : Option Addr) (c0 : Nat) (l0 : List (S29)) (r1 : List (S29)) (r2 : Int) (w : World) (hr0 : Kd.C k29 w A0 l0.length l0) (hc0 : l0.length ≤ c0) (h : heap_Sorted.f k l0 = some (r1, r2)) :
  Calls Try.prog 20 #[.slice A0 l0.length c0] w fun e w' => ∃ v0_ : Value, e = .returned (.tuple #[v0_, .int .i64 r2]) ∧ Kd.R k29 29 w' w.heap.size (fun _ => True) v0_ r1 ∧ Below w.heap.size w w' := by
 have HR0 := Aside0.mk hr0
 have HC0 := Aside0.mk hc0
 clear hr0 hc0
 have HB := Aside0.mk (Below.refl w.heap.size w)
 have H : ((heap_Check.f k l0).bind fun t130 => (if t130 = 0 then ((api_Timer_44.f l0).bind fun t131 => ((api_Timer_52.f t131).bind fun t134 => (some (t134, 0)))) else (some (([] : List (S29)), t130)))) = some (r1, r2) := h
 clear h
 replace H := Option.bind_eq_some_iff.mp H
 obtain ⟨t130, A20, H⟩ := H
 replace H : (if t130 = 0 then ((api_Timer_44.f l0).bind fun t131 => ((api_Timer_52.f t131).bind fun t134 => (some (t134, 0)))) else (some (([] : List (S29)), t130))) = some (r1, r2) := H
 have A2 := Aside0.mk A20
 clear A20
 by_cases c3 : t130 = 0
 ·rw [if_pos c3] at H
  have c3b0 : (t130 == 0) = true := beq_iff_eq.mpr c3
  have c3b1 : (t130 != 0) = false := bne_eq_false_iff_eq.mpr c3
  clear c3
  replace H := Option.bind_eq_some_iff.mp H
  obtain ⟨t131, A40, H⟩ := H
  replace H : ((api_Timer_52.f t131).bind fun t134 => (some (t134, 0))) = some (r1, r2) := H
  have A4 := Aside0.mk A40
  clear A40
  replace H := Option.bind_eq_some_iff.mp H
  obtain ⟨t134, A50, H⟩ := H
  replace H : (some (t134, 0)) = some (r1, r2) := H
  have A5 := Aside0.mk A50
  clear A50
  simp only [Option.some.injEq, Prod.mk.injEq] at H
  obtain ⟨rfl, rfl⟩ := H
  go_enter Try.func20, Try.ntmps20
  go_wp2_with (first | ((with_reducible refine gate_callee (f := 25) rfl ?_); refine goesL_ (some 7) rfl rfl Try.func25 (by kernel_rfl) rfl #[.slice A0 l0.length c0] rfl (by (try simp only [List.map_toArray, List.map_cons, List.map_nil]); first | done | rfl | (simp only [List.length_drop, List.length_take]; rfl)) ?_; (with_reducible refine (heap_Check.calls k _ _ l0 t130 _ ?side1 ?side2 A2.out).mono ?_); (case side1 => repeat (first | exact HR0.out | (with_reducible refine Kd.C_alloc ?_ _) | (with_reducible refine Kd.C_drewN ?_ _) | (with_reducible refine Kd.C_drew ?_))); (case side2 => exact HC0.out); rintro e w6 ⟨rfl, hb⟩; refine ⟨_, rfl, ?_⟩; have n0_ := Aside0.mk (below_step (by repeat (first | (with_reducible first | exact HB.out | apply below_alloc | apply pw_below_drewN | apply below_drew1) | exact HB.out)) hb); clear HB; have HB := n0_; clear n0_; (try clear hb); (try clear hb2); (try clear hk); (try clear hi)) | ((with_reducible refine gate_callee (f := 44) rfl ?_); refine goesL_ (some 12) rfl rfl Try.func44 (by kernel_rfl) rfl #[.slice A0 l0.length c0] rfl (by (try simp only [List.map_toArray, List.map_cons, List.map_nil]); first | done | rfl | (simp only [List.length_drop, List.length_take]; rfl)) ?_; (with_reducible refine (api_Timer_44.calls _ _ l0 t131 _ ?side1 ?side2 A4.out).mono ?_); (case side1 => repeat (first | exact (Kd.C_below HR0.out HB.out) | (with_reducible refine Kd.C_alloc ?_ _) | (with_reducible refine Kd.C_drewN ?_ _) | (with_reducible refine Kd.C_drew ?_))); (case side2 => exact HC0.out); rintro e w7 ⟨v132, rfl, ho0, hb⟩; refine ⟨_, rfl, ?_⟩; have n0_ := Aside0.mk (Kd.R_lower ho0 (below_size (by repeat (first | (with_reducible first | exact HB.out | apply below_alloc | apply pw_below_drewN | apply below_drew1) | exact HB.out)))); have n1_ := Aside0.mk (below_step (by repeat (first | (with_reducible first | exact HB.out | apply below_alloc | apply pw_below_drewN | apply below_drew1) | exact HB.out)) hb); clear HB; have HO133 := n0_; have HB := n1_; clear n0_ n1_; (try clear hb); (try clear hb2); (try clear hk); (try clear hi); (try clear ho0); obtain ⟨Ao8, co8, eo8⟩ := Kd.R_slice HO133.out; subst eo8) | ((with_reducible refine gate_callee (f := 52) rfl ?_); refine goesL_ (some 14) rfl rfl Try.func52 (by kernel_rfl) rfl #[.slice Ao8 t131.length co8, .func (.func 53) #[] #[]] rfl (by (try simp only [List.map_toArray, List.map_cons, List.map_nil]); first | done | rfl | (simp only [List.length_drop, List.length_take]; rfl)) ?_; (with_reducible refine (api_Timer_52.calls (fun k_ => some k_ = (.slice Ao8 t131.length co8 : Value).ownBlock) (.slice Ao8 t131.length co8) t131 t134 w _ ?side1 ?side2 A5.out).mono ?_); (case side1 => repeat (first | (with_reducible first | exact HB.out | apply below_alloc | apply pw_below_drewN | apply below_drew1) | exact HB.out)); (case side2 => exact Kd.R_tight rfl HO133.out); rintro e w9 ⟨rfl, hy0, hb, hkp⟩; refine ⟨_, rfl, ?_⟩; have n0_ := Aside0.mk (Kd.R_reok rfl hy0 (fun k_ e_ => HO133.out.1 k_ e_)); have n1_ := Aside0.mk (hb); clear HO133; clear HB; have HO133 := n0_; have HB := n1_; clear n0_ n1_; (try clear hb); (try clear hkp); (try clear hy0)))
  go_ret2
  exact ⟨_, by first | rfl | (simp [errW_none, errW_some] <;> rfl) | (simp [*, errW_none, errW_some] <;> rfl), by (with_reducible repeat (first | apply Kd.R_alloc | apply Kd.R_drewN | apply Kd.R_drew)); exact HO133.out, by repeat (first | (with_reducible first | exact HB.out | apply below_alloc | apply pw_below_drewN | apply below_drew1) | exact HB.out)⟩
 ·rw [if_neg c3] at H
  have c3b0 : (t130 == 0) = false := beq_eq_false_iff_ne.mpr c3
  have c3b1 : (t130 != 0) = true := bne_iff_ne.mpr c3
  simp only [Option.some.injEq, Prod.mk.injEq] at H
  obtain ⟨rfl, rfl⟩ := H
  go_enter Try.func20, Try.ntmps20
  go_wp2_with (first | ((with_reducible refine gate_callee (f := 25) rfl ?_); refine goesL_ (some 7) rfl rfl Try.func25 (by kernel_rfl) rfl #[.slice A0 l0.length c0] rfl (by (try simp only [List.map_toArray, List.map_cons, List.map_nil]); first | done | rfl | (simp only [List.length_drop, List.length_take]; rfl)) ?_; (with_reducible refine (heap_Check.calls k _ _ l0 t130 _ ?side1 ?side2 A2.out).mono ?_); (case side1 => repeat (first | exact HR0.out | (with_reducible refine Kd.C_alloc ?_ _) | (with_reducible refine Kd.C_drewN ?_ _) | (with_reducible refine Kd.C_drew ?_))); (case side2 => exact HC0.out); rintro e w10 ⟨rfl, hb⟩; refine ⟨_, rfl, ?_⟩; have n0_ := Aside0.mk (below_step (by repeat (first | (with_reducible first | exact HB.out | apply below_alloc | apply pw_below_drewN | apply below_drew1) | exact HB.out)) hb); clear HB; have HB := n0_; clear n0_; (try clear hb); (try clear hb2); (try clear hk); (try clear hi)))
  go_ret2
  exact ⟨_, by first | rfl | (simp [errW_none, errW_some] <;> rfl) | (simp [*, errW_none, errW_some] <;> rfl), by first | exact Kd.R_nil _ _ _ _ _ | exact Kd.N_nil _ _ _ _ _ | exact Kd.V_nil _ _ _ _ _ | exact Kd.Q_nil _ _ _ _ _ | exact Kd.S_nil _ _ _ _ _, by repeat (first | (with_reducible first | exact HB.out | apply below_alloc | apply pw_below_drewN | apply below_drew1) | exact HB.out)⟩

end Go.Proofs.Ytlpbolkbdcgmnaa.XH
-- squeezed
