-- by px.py, a program of this session, over the kit's printer: functions given by hand stand beside printed ones. Lean checks all of it.
import Derived.Test.YtlpbolkbdcgmnaaXD0
import Derived.Test.YtlpbolkbdcgmnaaXD2
import Derived.Test.YtlpbolkbdcgmnaaXD3
import Derived.Test.YtlpbolkbdcgmnaaXD4
import Derived.Test.YtlpbolkbdcgmnaaXD5
import Derived.RangeFuncNested
import Derived.RangeFuncCalls
import Derived.RangeFuncLeaves
import Derived.WalkKit
import Derived.OwnWalkIn
import Derived.TacticsInMore
import Derived.Test.YtlpbolkbdcgmnaaGIdx
import Derived.Test.YtlpbolkbdcgmnaaGLayT
import Derived.BigRegion
import Derived.Test.YtlpbolkbdcgmnaaGRange
import Derived.LoopNIn
import Derived.LoopIn
namespace Go.Proofs.Ytlpbolkbdcgmnaa.XD
open Go.RowKit Go.Proofs.YtlpbolkbdcgmnaaW.PrintWords Go.Proofs.YtlpbolkbdcgmnaaW.PrintLast Go.Proofs.YtlpbolkbdcgmnaaW.PrintMore
attribute [local go_sem] max2_int min2_int max_two min_two max_three min_three max_four min_four   -- for this text's walks alone
set_option linter.unusedVariables false
set_option linter.unusedSimpArgs false

/-! ### heap_Open: function 46, by hand -/
def heap_fit {α : Type} (l0 : List (S29)) (o : Option α) : Option α := if l0.length < 4398046511104 then o else none
theorem heap_fit_some {α : Type} {l0 : List (S29)} {o : Option α} {r : α} (h : heap_fit l0 o = some r) : l0.length < 4398046511104 ∧ o = some r := by
 unfold heap_fit at h
 split at h
 ·rename_i hl; exact ⟨hl, h⟩
 ·cases h
theorem heap_fit_le {α : Type} {l0 : List (S29)} {o o' : Option α} (h : LeO o o') : LeO (heap_fit l0 o) (heap_fit l0 o') := LeO.ite h (LeO.none _)
set_option maxHeartbeats 1000000 in
set_option maxRecDepth 100000 in
theorem heap_Open (k : Nat) (A0 : Option Addr) (c0 : Nat) (l : List S29) (r : Int) (w : World) (hr0 : Kd.C k29 w A0 l.length l) (hc0 : l.length ≤ c0) (h : heap_Check.f k l = some r) (hlen : l.length < 4398046511104) :
  Calls Try.prog 46 #[.slice A0 l.length c0] w fun e w' => ∃ g, e = .returned (.tuple #[.pointer (some ⟨g, 0, none⟩), .int .i64 r]) ∧ HQ (fun k => w.heap.size ≤ k ∧ k < w'.heap.size) g w' (if r = 0 then l else []) ∧ Below w.heap.size w w' := by
 have HR0 := Lib.hid hr0; clear hr0
 have HC := heap_Check.calls k A0 c0 l r w HR0.out hc0 h
 have HCL := fun (W : World) (hb : Below w.heap.size w W) => api_Timer_44.calls A0 c0 l l W (Kd.C_below HR0.out hb) hc0 (by unfold api_Timer_44.f; rw [if_pos hlen])
 have hu := Try.underlying62
 clear h
 by_cases c : r = 0
 ·subst c
  rw [if_pos rfl]
  go_enter Try.func46, Try.ntmps46
  go_wp2_with (first | (go_at_call 25; refine HC.mono ?_; rintro e w3 ⟨rfl, hb3⟩; have HB3 := Lib.hid hb3; clear hb3) | (go_at_call 44; refine (HCL _ HB3.out).mono ?_; rintro e w4 ⟨v4, rfl, hr4, hb4⟩; obtain ⟨A4, c4, rfl, hl4, hC4⟩ := Kd.R_reads hr4; clear hC4; have HR4 := Lib.hid hr4; have HZ4 := Lib.hid hb4.size; have HB4 := Lib.hid (below_then HB3.out HB3.out.size hb4); clear hb4 hr4))
  go_ret2
  refine ⟨_, rfl, HQ.start HR4.out HZ4.out (fun k hk hk2 => ⟨Nat.le_trans HB3.out.size hk, by simpa using hk2⟩), below_alloc HB4.out _⟩
 ·rw [if_neg c]
  have d : (r != 0) = true := bne_iff_ne.mpr c
  go_enter Try.func46, Try.ntmps46
  go_wp2_with (first | (go_at_call 25; refine HC.mono ?_; rintro e w3 ⟨rfl, hb3⟩; have HB3 := Lib.hid hb3; clear hb3))
  go_ret2
  refine ⟨_, rfl, HQ.start (B := w.heap.size) (ok := fun _ => True) (Kd.R_nil _ _ _ _ _) HB3.out.size (fun k hk hk2 => ⟨hk, by simpa using hk2⟩), below_alloc HB3.out _⟩

/-! ### heap_Queue_All: function 49, by hand -/
set_option maxHeartbeats 400000 in
set_option maxRecDepth 100000 in
theorem queue_all (g : Nat) (A : Option Addr) (n c : Nat) (w : World) (h : w.heap[g]? = some (.cells #[.slice A n c] 62 (0, 0))) :
  Calls Try.prog 49 #[.pointer (some ⟨g, 0, none⟩)] w fun e w' => e = .returned (.slice A n c) ∧ w' = w := by
 have hc := blk_cell h 0
 simp only [List.getElem?_toArray, List.getElem?_cons_zero] at hc
 have hu := Try.underlying62
 clear h
 go_enter Try.func49, Try.ntmps49
 go_wp2
 go_ret
 exact ⟨rfl, rfl⟩

-- PXIMPORT Derived.RangeFuncNested
-- PXIMPORT Derived.RangeFuncCalls
-- PXIMPORT Derived.RangeFuncLeaves
-- PXIMPORT Derived.WalkKit
-- PXIMPORT Derived.OwnWalkIn
-- PXIMPORT Derived.TacticsInMore
/-! ### due_Until: function 48, by hand -/
set_option maxHeartbeats 400000 in
set_option maxRecDepth 100000 in
theorem due_Until (p : Option Addr) (now : Int) (w : World) :
  Calls Try.prog 48 #[.pointer p, .int .i64 now] w fun e w' => e = .returned (.func (.func 66) #[] #[.pointer (some ⟨w.heap.size, 0, none⟩), .pointer (some ⟨w.heap.size + 1, 0, none⟩)]) ∧ w' = (w.alloc (.cells #[.pointer p] 59)).alloc (.cells #[.int .i64 now] 2) := by
 have hmf : ∀ (fn : Fn) (first cap : Array Value) (w : World), (Instr.makeFunc fn first cap).run Try.prog w = .ok (.func fn first cap) w := fun _ _ _ _ => rfl
 go_enter Try.func48, Try.ntmps48
 go_wp2
 go_ret
 exact ⟨rfl, rfl⟩
/-- What comes due, one by one, and what is left. -/
def du_pops (now : Int) : Nat → List S29 → List S29 × List S29
 | 0, l => ([], l)
 | m + 1, l => if 0 < l.length ∧ (Hp.g z29 l 0).f0 ≤ now then (Hp.g z29 l 0 :: (du_pops now m (Hp.take_ z29 tm_lt l 0)).1, (du_pops now m (Hp.take_ z29 tm_lt l 0)).2) else ([], l)
theorem du_pops_go (now : Int) (l : List S29) (h : 0 < l.length) (h2 : (Hp.g z29 l 0).f0 ≤ now) : du_pops now l.length l = (Hp.g z29 l 0 :: (du_pops now (Hp.take_ z29 tm_lt l 0).length (Hp.take_ z29 tm_lt l 0)).1, (du_pops now (Hp.take_ z29 tm_lt l 0).length (Hp.take_ z29 tm_lt l 0)).2) := by
 rw [(Hp.take_perm z29 (lt := tm_lt) l 0 h).2]
 obtain ⟨m, hm⟩ : ∃ m, l.length = m + 1 := ⟨l.length - 1, by omega⟩
 rw [hm, Nat.add_sub_cancel]
 conv => lhs; unfold du_pops
 rw [if_pos ⟨h, h2⟩]
theorem du_pops_stop (now : Int) (l : List S29) (h : ¬ (0 < l.length ∧ (Hp.g z29 l 0).f0 ≤ now)) : du_pops now l.length l = ([], l) := by
 cases hm : l.length with
 | zero => rfl
 | succ m => unfold du_pops; rw [if_neg h]
theorem du_pops_len (now : Int) : ∀ (m : Nat) (l : List S29), (du_pops now m l).1.length ≤ m
 | 0, l => Nat.le_refl _
 | m + 1, l => by
  unfold du_pops
  split
  ·exact Nat.succ_le_succ (du_pops_len now m _)
  ·exact Nat.zero_le _
theorem HQ.all {P : Nat → Prop} {g : Nat} {w : World} {l : List S29} (h : HQ P g w l) : ∃ A c, w.heap[g]? = some (.cells #[.slice A l.length c] 62 (0, 0)) ∧ TRow tm_enc 4 29 w (.slice A l.length c) l := by
 obtain ⟨h1, v, h2, h3, h4⟩ := h
 obtain ⟨A, c, rfl, hc⟩ := h4.slice
 exact ⟨A, c, h2, h4⟩
theorem HQ.far {P S : Nat → Prop} {g : Nat} {w w' : World} {l : List S29} (h : HQ P g w l) (hm : Mv S w w') (hs : ∀ k, P k → ¬ S k) : HQ P g w' l := by
 obtain ⟨h1, v, h2, h3, h4⟩ := h
 exact ⟨h1, v, (hm.block g (blk_lt h2) (hs g h1)).trans h2, h3, h4.moved (fun k hk => hm.block k (h4.lt k hk) (hs k (h3 k hk)))⟩
def du_len : Value → Nat
 | .slice _ n _ => n
 | _ => 0
set_option maxHeartbeats 2000000 in
set_option maxRecDepth 100000 in
/-- The timers that are due, taken out one by one, each handed to a round of the loop. -/
theorem due_until1 (P S : Nat → Prop) (B g b1 b2 lp : Nat) (now : Int) (l : List S29) (J : List S29 → World → Prop) (hl : l.length ≤ 4398046511104)
  (hPB : ∀ k, P k → k < B) (h1 : ¬ P b1) (h2 : ¬ P b2) (hS : ∀ k, P k → ¬ S k) (hs1 : ¬ S b1) (hs2 : ¬ S b2) (hJ : ∀ pre W W', J pre W → Mv P W W' → J pre W')
  (hY : ∀ pre (x : S29) W, J pre W → pre.length < l.length → YieldAt Fence.wide 1 Try.prog lp #[.agg #[.int .i64 x.f0, .int .i64 x.f1, .int .u8 x.f2, .int .i64 x.f3]] W fun e W' => e = .returned (.bool true) ∧ J (pre ++ [x]) W' ∧ Mv S W W')
  (W : World) (hB : B ≤ W.heap.size) (hq : HQ P g W l) (c1 : W.cell? ⟨b1, 0, none⟩ = some (.pointer (some ⟨g, 0, none⟩))) (c2 : W.cell? ⟨b2, 0, none⟩ = some (.int .i64 now)) (h0 : J [] W) :
  Calls Try.prog 66 #[.func (.yield lp) #[] #[], .pointer (some ⟨b1, 0, none⟩), .pointer (some ⟨b2, 0, none⟩)] W fun e W' => (∃ v, e = .returned v) ∧ J (du_pops now l.length l).1 W' ∧ HQ P g W' (du_pops now l.length l).2 := by
 have HQ0 := Lib.hid hq
 have HJ0 := Lib.hid h0
 have HJ := Lib.hid hJ
 have HY := Lib.hid hY
 have HS := Lib.hid hS
 have HPB := Lib.hid hPB
 obtain ⟨A, c, hrow, htr⟩ := hq.all
 have HA := queue_all g A l.length c W hrow
 have HROW := Lib.hid hrow
 have hu := Try.underlying29
 clear hq h0 hJ hY hS hPB hrow htr
 go_enter Try.func66, Try.ntmps66
 go_wp2_with (go_at_call 49; refine HA.mono ?_; rintro e w3 ⟨rfl, rfl⟩)
 go_loopw [4] (fun v4 wr => ∃ (pre rest : List S29) (A : Option Addr) (c : Nat), v4 = .slice A rest.length c ∧ wr.cell? ⟨b1, 0, none⟩ = some (.pointer (some ⟨g, 0, none⟩)) ∧ wr.cell? ⟨b2, 0, none⟩ = some (.int .i64 now) ∧ B ≤ wr.heap.size ∧ rest.length ≤ 4398046511104 ∧ Hid (wr.heap[g]? = some (.cells #[.slice A rest.length c] 62 (0, 0)) ∧ TRow tm_enc 4 29 wr (.slice A rest.length c) rest) ∧ Hid (HQ P g wr rest) ∧ Hid (J pre wr) ∧ Hid (du_pops now l.length l = (pre ++ (du_pops now rest.length rest).1, (du_pops now rest.length rest).2))) (fun v4 _ => du_len v4)
 case atStart =>
  obtain ⟨A', c', h3, h4⟩ := HQ0.out.all
  have e : Value.slice A' l.length c' = .slice A l.length c := by
   have h5 := HROW.out
   rw [h3] at h5
   cases h5
   rfl
  exact ⟨[], l, A, c, rfl, c1, c2, hB, hl, Lib.hid ⟨HROW.out, e ▸ h4⟩, HQ0, HJ0, Lib.hid rfl⟩
 case round =>
  clear HQ0 HJ0 HROW c1 c2 hB hl HA
  obtain ⟨pre, rest, A, c, rfl, c1, c2, hB, hl, HR, HQ1, HJ1, HE⟩ := hrel
  by_cases hp : 0 < rest.length
  ·obtain ⟨b, cap, cur, hv, _⟩ := HR.out.2.form hp
   obtain ⟨rfl, rfl⟩ : A = some ⟨b, 0, none⟩ ∧ c = cap := by cases hv; exact ⟨rfl, rfl⟩
   clear hv
   have d0 : decide ((0 : Int) < (rest.length : Int)) = true := decide_eq_true (by omega)
   have d1 : (0 : Int) < (rest.length : Int) := by omega
   obtain ⟨q0, _, _, _⟩ := tm_at HR.out.2 0 hp
   generalize hx : Hp.g z29 rest 0 = x at q0
   have HX := Lib.hid hx; clear hx
   simp only [Nat.zero_mul] at q0
   by_cases hdue : x.f0 ≤ now
   ·have d2 : decide (x.f0 ≤ now) = true := decide_eq_true hdue
    have HP := queue_pop P g rest wr.drew (by omega) (fun k hk => Nat.lt_of_lt_of_le (HPB.out k hk) hB) HQ1.out.drew
    rw [if_neg (by omega), if_neg (by omega), HX.out] at HP
    obtain ⟨l2, hl2⟩ : ∃ l2, l2 = Hp.take_ z29 tm_lt rest 0 := ⟨_, rfl⟩
    rw [← hl2] at HP
    have HL2 := Lib.hid hl2
    have hll : l2.length = rest.length - 1 := by rw [hl2]; exact (Hp.take_perm z29 (lt := tm_lt) rest 0 hp).2
    have HLL := Lib.hid hll
    clear hl2 hll
    have HJ2 := Lib.hid (fun w' (hm : Mv P wr.drew w') => HJ.out pre wr w' HJ1.out ⟨hm.os, hm.tape, hm.output, hm.size, hm.block⟩)
    go_wp2
    go_region
    go_upto_region 4 with (go_at_call 55; refine HP.mono ?_; rintro e w3 ⟨rfl, hq3, hm3⟩; have HQ3 := Lib.hid hq3; have HM3 := Lib.hid hm3; clear hq3 hm3)
    have hb4 := below_alloc (Below.refl w3.heap.size w3) (.cells #[.int .i64 x.f0, .int .i64 x.f1, .int .u8 x.f2, .int .i64 x.f3] 29)
    have hm34 := Mv.of_below hb4 P
    have hJ4 := HJ.out pre _ _ (HJ2.out w3 HM3.out) hm34
    have hq4 := HQ3.out.below hb4
    have c14 := hm34.cell (HM3.out.cell (show wr.drew.cell? ⟨b1, 0, none⟩ = _ from c1) h1) h1
    have c24 := hm34.cell (HM3.out.cell (show wr.drew.cell? ⟨b2, 0, none⟩ = _ from c2) h2) h2
    have a4 := take_new (w := w3) (.cells #[.int .i64 x.f0, .int .i64 x.f1, .int .u8 x.f2, .int .i64 x.f3] 29)
    have x0 := blk_cell a4 0
    have x1 := blk_cell a4 1
    have x2 := blk_cell a4 2
    have x3 := blk_cell a4 3
    simp only [List.getElem?_toArray, List.getElem?_cons_zero, List.getElem?_cons_succ] at x0 x1 x2 x3
    have hB4 : B ≤ (w3.alloc (.cells #[.int .i64 x.f0, .int .i64 x.f1, .int .u8 x.f2, .int .i64 x.f3] 29)).heap.size := Nat.le_trans hB (Nat.le_trans HM3.out.size hm34.size)
    have hpre : pre.length < l.length := by
     have h1 := congrArg (fun z => z.1.length) HE.out
     have h2 := du_pops_len now l.length l
     rw [du_pops_go now rest hp (by rw [HX.out]; exact hdue)] at h1
     simp only [List.length_append, List.length_cons] at h1
     omega
    obtain ⟨fn, tmps, assign, body, hy, hR⟩ := HY.out pre x _ hJ4 hpre
    generalize hW4 : w3.alloc (.cells #[.int .i64 x.f0, .int .i64 x.f1, .int .u8 x.f2, .int .i64 x.f3] 29) = W4 at hb4 hm34 hJ4 hq4 c14 c24 a4 x0 x1 x2 x3 hy hR hB4 ⊢
    obtain ⟨s5, hs5⟩ : ∃ s5, s5 = w3.heap.size := ⟨_, rfl⟩
    rw [← hs5] at x0 x1 x2 x3 ⊢
    have HQ4 := Lib.hid hq4
    have HC14 := Lib.hid c14
    have HC24 := Lib.hid c24
    have HB4 := Lib.hid hB4
    clear hb4 hm34 hJ4 hq4 c14 c24 a4 hB4 HQ3 HM3 hW4 hs5
    refine (wpIn_wide (n := 2)).1 ?_
    gi_wp2
    refine hR.mono ?_
    rintro e W5 ⟨rfl, hJ5, hm5⟩
    gi_wp2
    have hq5 := HQ4.out.far hm5 HS.out
    have c15 := hm5.cell HC14.out hs1
    have c25 := hm5.cell HC24.out hs2
    have hB5 := Nat.le_trans HB4.out hm5.size
    obtain ⟨A5, c5, hrow5, htr5⟩ := hq5.all
    have HA5 := queue_all g A5 l2.length c5 W5 hrow5
    have HR5 := Lib.hid (And.intro hrow5 htr5)
    have HQ5 := Lib.hid hq5
    have HJ5 := Lib.hid hJ5
    clear hrow5 htr5 hq5 hJ5 hm5
    go_wp2_with (go_at_call 49; refine HA5.mono ?_; rintro e w6 ⟨rfl, rfl⟩)
    have hll := HLL.out
    go_roundw
    case rel => exact ⟨pre ++ [x], l2, A5, c5, rfl, c15, c25, hB5, by omega, HR5, HQ5, HJ5, Lib.hid (by rw [HE.out, du_pops_go now rest hp (by rw [HX.out]; exact hdue), HX.out, ← HL2.out]; simp)⟩
    case measure => simp only [du_len]; omega
   ·have d2 : decide (x.f0 ≤ now) = false := decide_eq_false hdue
    have HE2 := Lib.hid (HE.out.trans (by rw [du_pops_stop now rest (fun h => hdue (by have := h.2; rwa [HX.out] at this)), List.append_nil]))
    have HJ2 := Lib.hid (HJ.out pre wr wr.drew HJ1.out ⟨rfl, rfl, rfl, Nat.le_refl _, fun _ _ _ => rfl⟩)
    go_wp2
    go_region
    go_wp2
    first | go_end0 | ((try simp only [Exit.inBlock, Exit.then]); refine bodyPost_end (results_none rfl _ _ _) rfl ?_) | ((try simp only [Exit.inBlock, Exit.then]); refine bodyPost_ret (results_none rfl _ _ _) rfl ?_)
    rw [HE2.out]
    exact ⟨⟨_, rfl⟩, HJ2.out, HQ1.out.drew⟩
  ·obtain rfl : rest = [] := List.eq_nil_of_length_eq_zero (by omega)
   have HE2 := Lib.hid (HE.out.trans (by rw [du_pops_stop now [] (fun h => absurd h.1 (by simp)), List.append_nil]))
   have HJ2 := Lib.hid (HJ.out pre wr wr.drew HJ1.out ⟨rfl, rfl, rfl, Nat.le_refl _, fun _ _ _ => rfl⟩)
   simp only [List.length_nil]
   go_wp2
   go_region
   go_wp2
   first | go_end0 | ((try simp only [Exit.inBlock, Exit.then]); refine bodyPost_end (results_none rfl _ _ _) rfl ?_) | ((try simp only [Exit.inBlock, Exit.then]); refine bodyPost_ret (results_none rfl _ _ _) rfl ?_)
   rw [HE2.out]
   exact ⟨⟨_, rfl⟩, HJ2.out, HQ1.out.drew⟩

-- PXIMPORT YtlpbolkbdcgmnaaGIdx
-- PXIMPORT YtlpbolkbdcgmnaaGLayT
-- PXIMPORT Derived.BigRegion
/-! ### api_Timer_58: function 58, by hand -/
theorem du_first (p : S29 → Bool) (l : List S29) : (@Lib.idxBy S29 (fun _ y => p y) l z29 = -1 ∧ ∀ x ∈ l, p x = false) ∨ ∃ i, ∃ h : i < l.length, @Lib.idxBy S29 (fun _ y => p y) l z29 = (i : Int) ∧ p l[i] = true ∧ ∀ x ∈ l.take i, p x = false := by
 letI : Inhabited S29 := ⟨z29⟩
 have gen : ∀ (l : List S29) (i : Nat), (Lib.idxByFrom (fun _ y => p y) z29 l i = -1 ∧ ∀ x ∈ l, p x = false) ∨ ∃ j, ∃ h : j < l.length, Lib.idxByFrom (fun _ y => p y) z29 l i = ((i + j : Nat) : Int) ∧ p l[j] = true ∧ ∀ x ∈ l.take j, p x = false := by
  intro l
  induction l with
  | nil => intro i; exact .inl ⟨rfl, fun x hx => absurd hx (by simp)⟩
  | cons y l ih =>
   intro i
   simp only [Lib.idxByFrom]
   by_cases c : p y = true
   ·rw [if_pos c]
    exact .inr ⟨0, by simp, by simp, c, fun x hx => absurd hx (by simp)⟩
   ·rw [if_neg c]
    have c' : p y = false := by simpa using c
    rcases ih (i + 1) with ⟨h1, h2⟩ | ⟨j, hj, h1, h2, h3⟩
    ·refine .inl ⟨h1, fun x hx => ?_⟩
     rcases List.mem_cons.mp hx with rfl | hx
     ·exact c'
     ·exact h2 x hx
    ·refine .inr ⟨j + 1, by simpa using hj, by rw [h1]; congr 1; omega, by simpa using h2, fun x hx => ?_⟩
     rw [List.take_succ_cons] at hx
     rcases List.mem_cons.mp hx with rfl | hx
     ·exact c'
     ·exact h3 x hx
 rcases gen l 0 with h | ⟨j, hj, h1, h2, h3⟩
 ·exact .inl h
 ·exact .inr ⟨j, hj, by rw [Nat.zero_add] at h1; exact h1, h2, h3⟩
/-- The first n of a row, whatever is written behind them. -/
theorem TRow.front {α : Type} {enc : α → List Value} {sz : Nat} {E : TypeId} {w : World} {l : List α} {b cap n : Nat} (h : TRow enc sz E w (.slice (some ⟨b, 0, none⟩) l.length cap) l) (hk : ∀ y, (enc y).length = sz) (hn : n ≤ l.length) (zs : List Value) (hz : n * sz + zs.length ≤ l.length * sz) : TRow enc sz E (w.setCells b (n * sz) zs) (.slice (some ⟨b, 0, none⟩) n cap) (l.take n) := by
 rcases h with ⟨h, _⟩ | ⟨b', cap', cur, h, hb, h1, h2, h3, hx⟩
 ·cases h
 ·injection h with e1 e2 e3
  injection e1 with e1
  injection e1 with e1
  subst e1 e3
  have hlc : l.length * sz ≤ cap * sz := Nat.mul_le_mul_right _ h1
  obtain ⟨cur', c1, c2, c3⟩ := setCells_row zs (n * sz) w cur hb (by omega)
  have hl : (l.take n).length = n := by rw [List.length_take]; omega
  refine .inr ⟨b, cap, cur', by rw [hl], c1, by rw [hl]; omega, h2, by rw [c2]; exact h3, fun j x hj t u hu => ?_⟩
  rw [List.getElem?_take] at hj
  split at hj
  ·rename_i hjn
   have h0 := hx j x hj t u hu
   have ht : t < sz := by have := (List.getElem?_eq_some_iff.1 hu).1; rwa [hk] at this
   have h4 : j * sz + sz ≤ n * sz := by rw [← Nat.succ_mul]; exact Nat.mul_le_mul_right _ hjn
   have hcl : cur.toList.length = cur.size := Array.length_toList
   rw [← Array.getElem?_toList, c3, List.append_assoc, List.getElem?_append_left (by rw [List.length_take]; omega), List.getElem?_take, if_pos (by omega), Array.getElem?_toList]
   exact h0
  ·cases hj
theorem run_clear_timer (w : World) (ty : TypeId) (b o n c : Nat) (hn : 0 < n) (hc : ∀ j, j < n * 4 → (w.cell? ⟨b, o + j, none⟩).isSome = true) (hf : ∀ j, j < n * 4 → w.frozen? ⟨b, o + j, none⟩ = false) :
  ∃ zs : List Value, zs.length = n * 4 ∧ (Builtin.clear_ #[22] ty #[.slice (some ⟨b, o, none⟩) n c]).run Try.prog w = .ok (.tuple #[]) (w.setCells b o zs) := by
 obtain ⟨i0, hi, hz⟩ := info_parts info29
 have hv : ∀ w, (zeroValue 29).run Try.prog w = .ok (.agg #[.int .i64 0, .int .i64 0, .int .u8 0, .int .i64 0]) w := fun w => by
  simp [zeroValue, typeInfo, hi, hz.1]
 have hzl : (Builtin.zeroCells (Value.agg #[.int .i64 0, .int .i64 0, .int .u8 0, .int .i64 0]).cells n).toList.length = n * 4 := by
  rw [Array.length_toList, size_zeroCells]
  rfl
 have hone : ∀ v ∈ (Builtin.zeroCells (Value.agg #[.int .i64 0, .int .i64 0, .int .u8 0, .int .i64 0]).cells n).toList, v.oneCell' = true := by
  intro v hv
  simp only [Builtin.zeroCells, Array.toList_map, List.mem_map] at hv
  obtain ⟨i, _, rfl⟩ := hv
  have h4 : (Value.agg #[.int .i64 0, .int .i64 0, .int .u8 0, .int .i64 0]).cells = #[.int .i64 0, .int .i64 0, .int .u8 0, .int .i64 0] := rfl
  rw [h4]
  have h5 : i % (#[Value.int .i64 0, .int .i64 0, .int .u8 0, .int .i64 0] : Array Value).size < 4 := Nat.mod_lt _ (by decide)
  generalize i % (#[Value.int .i64 0, .int .i64 0, .int .u8 0, .int .i64 0] : Array Value).size = r at h5
  match r, h5 with
  | 0, _ => rfl
  | 1, _ => rfl
  | 2, _ => rfl
  | 3, _ => rfl
 have hst := run_storeCells_cells (P := Try.prog) b o (Builtin.zeroCells (Value.agg #[.int .i64 0, .int .i64 0, .int .u8 0, .int .i64 0]).cells n).toList 0 w (by rw [hzl]; simpa using hc) (by rw [hzl]; simpa using hf) hone
 simp only [Nat.add_zero] at hst
 refine ⟨_, hzl, ?_⟩
 obtain ⟨m, rfl⟩ : ∃ m, n = m + 1 := ⟨n - 1, by omega⟩
 simp [Builtin.clear_, run_underlying Try.underlying22, hv, hst]
set_option maxHeartbeats 2000000 in
set_option maxRecDepth 100000 in
/-- slices.DeleteFunc at timers: the elements that stay, in the row that it was handed. -/
theorem slices_DeleteT (p : S29 → Bool) (gf : Nat) (lb : Array Value) (eg : ∀ args w, (callFunc gf args).run Try.prog w = .ok (.enter gf args) w) (A : Option Addr) (c : Nat) (l : List S29) (w : World) (hl : l.length ≤ 4398046511104)
  (htr : TRow tm_enc 4 29 w (.slice A l.length c) l)
  (hp : ∀ (x : S29) W, Mv (fun k => (Value.slice A l.length c).ownBlock = some k) w W → Calls Try.prog gf (#[.agg #[.int .i64 x.f0, .int .i64 x.f1, .int .u8 x.f2, .int .i64 x.f3]] ++ lb) W fun e w' => e = .returned (.bool (p x)) ∧ Below W.heap.size W w') :
  Calls Try.prog 58 #[.slice A l.length c, .func (.func gf) #[] lb] w fun e w' => ∃ A' n', e = .returned (.slice A' n' c) ∧ n' = (l.filter (fun x => !p x)).length ∧ TRow tm_enc 4 29 w' (.slice A' n' c) (l.filter (fun x => !p x)) ∧ (∀ k, (Value.slice A' n' c).ownBlock = some k → (Value.slice A l.length c).ownBlock = some k) ∧ Mv (fun k => (Value.slice A l.length c).ownBlock = some k) w w' := by
 letI : Inhabited S29 := ⟨z29⟩
 have hu := Try.underlying29
 have HP := Lib.hid hp
 have HC := gi_index (d := k29) (enc := tm_enc) Try.lay_tidx Try.isAgg29 Try.sizeOf29 (fun _ => rfl) (fun h => k29_open h) (by decide) p gf lb eg A c l w (tm_readsK htr)
  (fun W x hbw => (HP.out x W (Mv.of_below hbw _)).mono (fun e w' ⟨he, hb'⟩ => ⟨he, below_then hbw hbw.size hb'⟩))
 change Calls Try.prog 73 _ _ _ at HC
 change Calls _ _ _ _ (fun e w_ => e = .returned (.int .i64 (@Lib.idxBy S29 (fun _ y => p y) l z29)) ∧ _) at HC
 have HT := Lib.hid htr
 clear htr hp
 rcases du_first p l with ⟨h1, h2⟩ | ⟨i0, hi0, h1, h2, h3⟩
 ·rw [h1] at HC
  have hfl : l.filter (fun x => !p x) = l := List.filter_eq_self.mpr (fun x hx => by rw [h2 x hx]; rfl)
  rw [hfl]
  go_enter Try.func58, Try.ntmps58
  go_wp2_with (go_at_call 73; refine HC.mono ?_; rintro e w3 ⟨rfl, hb3⟩)
  go_ret
  exact ⟨A, l.length, rfl, rfl, HT.out.moved (fun k hk => hb3.block k (HT.out.lt k hk)), fun k hk => hk, Mv.of_below hb3 _⟩
 ·rw [h1] at HC
  have d0 : ((i0 : Int) == -1) = false := beq_eq_false_iff_ne.mpr (by omega)
  have d1 : ((i0 : Int) = -1) = False := eq_false (by omega)
  obtain ⟨b, cap, cur, hv, _⟩ := HT.out.form (by omega)
  obtain ⟨rfl, rfl⟩ : A = some ⟨b, 0, none⟩ ∧ c = cap := by cases hv; exact ⟨rfl, rfl⟩
  clear hv
  have hcap := HT.out.slice
  go_enter Try.func58, Try.ntmps58
  go_wp2_with (go_at_call 73; refine HC.mono ?_; rintro e w3 ⟨rfl, hb3⟩)
  have hO : ∀ k, (Value.slice (some ⟨b, 0, none⟩) l.length c).ownBlock = some k ↔ k = b := fun k => by simp [Value.ownBlock, eq_comm]
  have ht3 : TRow tm_enc 4 29 w3 (.slice (some ⟨b, 0, none⟩) l.length c) l := HT.out.moved (fun k hk => hb3.block k (HT.out.lt k hk))
  have HT3 := Lib.hid ht3
  have HM3 := Lib.hid (Mv.of_below hb3 (fun k => k = b))
  clear ht3 hb3 HC HT
  go_loopw [5, 6] (fun v5 v6 wr => ∃ (i j : Nat) (l' : List S29), v5 = .int .i64 i ∧ v6 = .int .i64 j ∧ i < j ∧ j ≤ l.length ∧ Hid (l'.length = l.length) ∧ Hid (TRow tm_enc 4 29 wr (.slice (some ⟨b, 0, none⟩) l.length c) l') ∧ Hid (l'.take i = (l.take j).filter (fun x => !p x)) ∧ Hid (l'.drop j = l.drop j) ∧ Hid (Mv (fun k => k = b) w wr)) (fun _ v6 _ => l.length - (intOf v6).toNat)
  case atStart =>
   refine ⟨i0, i0 + 1, l, rfl, by go_num, by omega, by omega, Lib.hid rfl, HT3, Lib.hid ?_, Lib.hid rfl, HM3⟩
   rw [List.take_succ_eq_append_getElem hi0, List.filter_append, List.filter_eq_self.mpr (fun x hx => by rw [h3 x hx]; rfl)]
   simp [h2]
  case round =>
   clear HT3 HM3 h1 h2 h3
   obtain ⟨i, j, l', rfl, rfl, hij, hjl, HLL, HTR, HF, HDR, HM⟩ := hrel
   have htl : TRow tm_enc 4 29 wr (.slice (some ⟨b, 0, none⟩) l'.length c) l' := by rw [HLL.out]; exact HTR.out
   by_cases hj : j < l.length
   ·have dj : decide ((j : Int) < (l.length : Int)) = true := decide_eq_true (by omega)
    have q2 : (0 : Int) ≤ (j : Int) := by omega
    have q3 : (j : Int) < (l.length : Int) := by omega
    obtain ⟨c0, c1, c2, c3⟩ := tm_at htl j (by rw [HLL.out]; exact hj)
    have hxe : Hp.g z29 l' j = l[j] := by
     have hjl' : j < l'.length := by rw [HLL.out]; exact hj
     rw [Hp.g_eq _ _ _ hjl']
     have h4 := congrArg (fun z => z[0]?) HDR.out
     simp only [List.getElem?_drop, Nat.add_zero] at h4
     rw [List.getElem?_eq_getElem hjl', List.getElem?_eq_getElem hj] at h4
     exact Option.some.inj h4
    generalize hxx : Hp.g z29 l' j = x at c0 c1 c2 c3 hxe
    have HX := Lib.hid hxe
    clear hxx hxe
    have hbl := below_alloc (Below.refl wr.heap.size wr) (.cells #[.int .i64 x.f0, .int .i64 x.f1, .int .u8 x.f2, .int .i64 x.f3] 29)
    have HPX := HP.out x (wr.alloc (.cells #[.int .i64 x.f0, .int .i64 x.f1, .int .u8 x.f2, .int .i64 x.f3] 29)) ((HM.out.below hbl).mono (fun k hk => (hO k).mpr hk))
    have HBL := Lib.hid hbl
    have HBX := Lib.hid (blk_new wr (.cells #[.int .i64 x.f0, .int .i64 x.f1, .int .u8 x.f2, .int .i64 x.f3] 29))
    clear hbl htl
    cases hpx : p x with
    | true =>
     rw [hpx] at HPX
     go_wp2_with (with_reducible refine HPX.mono ?_; rintro e w5 ⟨rfl, hb5⟩; have HB5 := Lib.hid hb5; clear hb5)
     have htr5 : TRow tm_enc 4 29 w5 (.slice (some ⟨b, 0, none⟩) l.length c) l' := HTR.out.moved (fun k hk => (HB5.out.block k (Nat.lt_of_lt_of_le (HTR.out.lt k hk) HBL.out.size)).trans (HBL.out.block k (HTR.out.lt k hk)))
     go_roundw
     case rel =>
      refine ⟨i, j + 1, l', rfl, by go_num, by omega, by omega, HLL, Lib.hid htr5, Lib.hid ?_, Lib.hid ?_, Lib.hid ((HM.out.below HBL.out).below HB5.out)⟩
      ·rw [HF.out, List.take_succ_eq_append_getElem hj, List.filter_append, ← HX.out]; simp [hpx]
      ·rw [← List.drop_drop, HDR.out, List.drop_drop]
     case measure => simp [intOf]; omega
    | false =>
     rw [hpx] at HPX
     have qi2 : (0 : Int) ≤ (i : Int) := by omega
     have qi3 : (i : Int) < (l.length : Int) := by omega
     have hbr : b < wr.heap.size := HTR.out.lt b (by simp [Value.ownBlock])
     go_upto_region 9 with (with_reducible refine HPX.mono ?_; rintro e w5 ⟨rfl, hb5⟩; have HB5 := Lib.hid hb5; clear hb5)
     have htr5 : TRow tm_enc 4 29 w5 (.slice (some ⟨b, 0, none⟩) l.length c) l' := HTR.out.moved (fun k hk => (HB5.out.block k (Nat.lt_of_lt_of_le (HTR.out.lt k hk) HBL.out.size)).trans (HBL.out.block k (HTR.out.lt k hk)))
     have hbx5 := (HB5.out.block _ (blk_lt HBX.out)).trans HBX.out
     have hm5 := (HM.out.below HBL.out).below HB5.out
     obtain ⟨s5, hs5⟩ : ∃ s5, s5 = wr.heap.size := ⟨_, rfl⟩
     rw [← hs5] at hbx5 hbr ⊢
     have n1 : b ≠ s5 := by omega
     have n2 : s5 ≠ b := by omega
     have x0 := blk_cell hbx5 0
     have x1 := blk_cell hbx5 1
     have x2 := blk_cell hbx5 2
     have x3 := blk_cell hbx5 3
     simp only [List.getElem?_toArray, List.getElem?_cons_zero, List.getElem?_cons_succ] at x0 x1 x2 x3
     have htl5 : TRow tm_enc 4 29 w5 (.slice (some ⟨b, 0, none⟩) l'.length c) l' := by rw [HLL.out]; exact htr5
     obtain ⟨e0, e1, e2, e3⟩ := tm_at htl5 i (by rw [HLL.out]; omega)
     have g0 := htl5.frozen (i * 4)
     have g1 := htl5.frozen (i * 4 + 1)
     have g2 := htl5.frozen (i * 4 + 2)
     have g3 := htl5.frozen (i * 4 + 3)
     have hset := htl5.set (fun _ => rfl) (i := i) (by rw [HLL.out]; omega) x
     have hmset := hm5.sets (g := b) (.inl rfl) (i * 4) (tm_enc x)
     rw [← tm_sets] at hset hmset
     have hll2 : l'.length = (l'.set i x).length := by rw [List.length_set]
     have HSET := Lib.hid (And.intro hset hmset)
     clear hset hmset htr5 hbx5 hm5 htl5 hs5 c0 c1 c2 c3 hbr hll2
     go_upto_region 10 with fail
     obtain ⟨w6, hw6⟩ : ∃ w6, w6 = (((w5.setCell ⟨b, i * 4, none⟩ (.int .i64 x.f0)).setCell ⟨b, i * 4 + 1, none⟩ (.int .i64 x.f1)).setCell ⟨b, i * 4 + 2, none⟩ (.int .u8 x.f2)).setCell ⟨b, i * 4 + 3, none⟩ (.int .i64 x.f3) := ⟨_, rfl⟩
     rw [← hw6] at HSET ⊢
     clear hw6 e0 e1 e2 e3 g0 g1 g2 g3 x0 x1 x2 x3
     go_wp2
     obtain ⟨hs1, hs2⟩ := HSET.out
     rw [HLL.out] at hs1
     go_roundw
     case rel =>
      refine ⟨i + 1, j + 1, l'.set i x, by go_num, by go_num, by omega, by omega, Lib.hid (by rw [List.length_set]; exact HLL.out), Lib.hid hs1, Lib.hid ?_, Lib.hid ?_, Lib.hid hs2⟩
      ·have hil : i < l'.length := by rw [HLL.out]; omega
       rw [List.take_succ_eq_append_getElem (by rw [List.length_set]; exact hil), List.getElem_set_self, List.take_set_of_le (Nat.le_refl _), HF.out, List.take_succ_eq_append_getElem hj, List.filter_append, ← HX.out]
       simp [hpx]
      ·rw [List.drop_set_of_lt (by omega), ← List.drop_drop, HDR.out, List.drop_drop]
     case measure => simp [intOf]; omega
   ·have hjn : j = l.length := by omega
    subst hjn
    have dj : decide ((l.length : Int) < (l.length : Int)) = false := decide_eq_false (by omega)
    have dj2 : ¬ ((l.length : Int) < (l.length : Int)) := by omega
    have hlc : l.length ≤ c := by
     obtain ⟨A', c', e, hcc⟩ := htl.slice
     rw [HLL.out] at e hcc
     cases e
     exact hcc
    obtain ⟨j0, hj0, hz0⟩ := info_parts info29
    have hcut2 := cut_from (P := Try.prog) 22 29 .i64 Try.underlying22 hj0 4 hz0.2.1 (some ⟨b, 0, none⟩) l.length c (i : Int) (by omega) (by omega)
    have hcut1 := cut_to (P := Try.prog) 22 29 .i64 Try.underlying22 hj0 (some ⟨b, 0, none⟩) l.length c (i : Int) (by omega) (by omega) hlc
    rw [Int.toNat_natCast, if_neg (by omega)] at hcut2
    rw [Int.toNat_natCast] at hcut1
    have hadd : (some (⟨b, 0, none⟩ : Addr)).map (·.add (i * 4)) = some ⟨b, i * 4, none⟩ := by simp [add_plain]
    rw [hadd] at hcut2
    have hcell : ∀ q, q < (l.length - i) * 4 → (wr.cell? ⟨b, i * 4 + q, none⟩).isSome = true := by
     intro q hq
     obtain ⟨e0, e1, e2, e3⟩ := tm_at htl (i + q / 4) (by rw [HLL.out]; omega)
     have h5 : q % 4 < 4 := Nat.mod_lt _ (by decide)
     have h6 : i * 4 + q = (i + q / 4) * 4 + q % 4 := by omega
     rw [h6]
     generalize q % 4 = r at h5
     match r, h5 with
     | 0, _ => rw [Nat.add_zero, e0]; rfl
     | 1, _ => rw [e1]; rfl
     | 2, _ => rw [e2]; rfl
     | 3, _ => rw [e3]; rfl
    obtain ⟨zs, hzl, hclr⟩ := run_clear_timer wr 0 b (i * 4) (l.length - i) (c - i) (by omega) hcell (fun q _ => htl.frozen _)
    have hfr := TRow.front htl (fun _ => rfl) (n := i) (by rw [HLL.out]; omega) zs (by rw [hzl, HLL.out]; omega)
    have hmf := HM.out.sets (g := b) (.inl rfl) (i * 4) zs
    have hfi : l'.take i = l.filter (fun x => !p x) := by rw [HF.out, List.take_length]
    have hni : i = (l.filter (fun x => !p x)).length := by rw [← hfi, List.length_take, HLL.out]; omega
    rw [hfi] at hfr
    have HFIN := Lib.hid (And.intro hfr hmf)
    have HNI := Lib.hid hni
    clear hfr hmf hfi hni hcell hj0 hz0 hzl htl
    go_wp2
    go_ret
    obtain ⟨f1, f2⟩ := HFIN.out
    exact ⟨some ⟨b, 0, none⟩, i, rfl, HNI.out, f1, fun k hk => by simpa [Value.ownBlock, eq_comm] using hk, f2⟩

/-! ### due_of: function 57, by hand -/
set_option maxHeartbeats 400000 in
set_option maxRecDepth 100000 in
theorem due_of (kind ref : Int) (w : World) :
  Calls Try.prog 57 #[.int .u8 kind, .int .i64 ref] w fun e w' => e = .returned (.func (.func 72) #[] #[.pointer (some ⟨w.heap.size, 0, none⟩), .pointer (some ⟨w.heap.size + 1, 0, none⟩)]) ∧ w' = (w.alloc (.cells #[.int .u8 kind] 5)).alloc (.cells #[.int .i64 ref] 2) := by
 have hmf : ∀ (fn : Fn) (first cap : Array Value) (w : World), (Instr.makeFunc fn first cap).run Try.prog w = .ok (.func fn first cap) w := fun _ _ _ _ => rfl
 go_enter Try.func57, Try.ntmps57
 go_wp2
 go_ret
 exact ⟨rfl, rfl⟩
/-- A timer is of a kind and a thing. -/
def du_is (kind ref : Int) (x : S29) : Bool := x.f2 == kind && x.f3 == ref
set_option maxHeartbeats 400000 in
set_option maxRecDepth 100000 in
theorem due_of1 (kind ref : Int) (x : S29) (b1 b2 : Nat) (W : World) (h1 : W.cell? ⟨b1, 0, none⟩ = some (.int .u8 kind)) (h2 : W.cell? ⟨b2, 0, none⟩ = some (.int .i64 ref)) :
  Calls Try.prog 72 #[.agg #[.int .i64 x.f0, .int .i64 x.f1, .int .u8 x.f2, .int .i64 x.f3], .pointer (some ⟨b1, 0, none⟩), .pointer (some ⟨b2, 0, none⟩)] W fun e w' => e = .returned (.bool (du_is kind ref x)) ∧ Below W.heap.size W w' := by
 have hb := (Below.refl W.heap.size W)
 have hne1 : W.heap.size ≠ b1 := World.new_ne W ⟨b1, 0, none⟩ h1
 have hne2 : W.heap.size ≠ b2 := World.new_ne W ⟨b2, 0, none⟩ h2
 have hne3 := hne1.symm
 have hne4 := hne2.symm
 have hu := Try.underlying29
 have e1 : (W.alloc (.cells #[.int .i64 x.f0, .int .i64 x.f1, .int .u8 x.f2, .int .i64 x.f3] 29)).cell? ⟨b1, 0, none⟩ = some (.int .u8 kind) := (World.cell?_alloc_lt _ _ _ (World.block_lt_of_cell? W ⟨b1, 0, none⟩ h1)).trans h1
 have e2 : (W.alloc (.cells #[.int .i64 x.f0, .int .i64 x.f1, .int .u8 x.f2, .int .i64 x.f3] 29)).cell? ⟨b2, 0, none⟩ = some (.int .i64 ref) := (World.cell?_alloc_lt _ _ _ (World.block_lt_of_cell? W ⟨b2, 0, none⟩ h2)).trans h2
 unfold du_is
 obtain ⟨f0, f1, f2, f3⟩ := x
 by_cases c1 : f2 = kind
 ·subst c1
  by_cases c2 : f3 = ref
  ·subst c2
   go_enter Try.func72, Try.ntmps72
   go_wp2
   all_goals (go_ret; exact ⟨by first | rfl | (simp_all; done) | (simp_all; omega), hb.alloc hb.size _⟩)
  ·go_enter Try.func72, Try.ntmps72
   go_wp2
   all_goals (go_ret; exact ⟨by first | rfl | (simp_all; done) | (simp_all; omega), hb.alloc hb.size _⟩)
 ·go_enter Try.func72, Try.ntmps72
  go_wp2
  all_goals (go_ret; exact ⟨by first | rfl | (simp_all; done) | (simp_all; omega), hb.alloc hb.size _⟩)
set_option maxHeartbeats 400000 in
set_option maxRecDepth 100000 in
theorem due_Of1 (kind ref : Int) (x : S29) (b b1 b2 : Nat) (W : World) (h1 : W.cell? ⟨b1, 0, none⟩ = some (.int .u8 kind)) (h2 : W.cell? ⟨b2, 0, none⟩ = some (.int .i64 ref)) (h3 : W.cell? ⟨b, 0, none⟩ = some (.func (.func 72) #[] #[.pointer (some ⟨b1, 0, none⟩), .pointer (some ⟨b2, 0, none⟩)])) :
  Calls Try.prog 59 #[.agg #[.int .i64 x.f0, .int .i64 x.f1, .int .u8 x.f2, .int .i64 x.f3], .pointer (some ⟨b, 0, none⟩)] W fun e w' => e = .returned (.bool (!du_is kind ref x)) ∧ Below W.heap.size W w' := by
 have hb := below_alloc (Below.refl W.heap.size W) (.cells #[.int .i64 x.f0, .int .i64 x.f1, .int .u8 x.f2, .int .i64 x.f3] 29)
 have hne1 : W.heap.size ≠ b := World.new_ne W ⟨b, 0, none⟩ h3
 have hne2 := hne1.symm
 have hu := Try.underlying29
 have eg : ∀ args w, (callFunc 72 args).run Try.prog w = .ok (.enter 72 args) w := enters_of Try.func72 (by kernel_rfl) rfl
 have e1 : (W.alloc (.cells #[.int .i64 x.f0, .int .i64 x.f1, .int .u8 x.f2, .int .i64 x.f3] 29)).cell? ⟨b1, 0, none⟩ = some (.int .u8 kind) := (World.cell?_alloc_lt _ _ _ (World.block_lt_of_cell? W ⟨b1, 0, none⟩ h1)).trans h1
 have e2 : (W.alloc (.cells #[.int .i64 x.f0, .int .i64 x.f1, .int .u8 x.f2, .int .i64 x.f3] 29)).cell? ⟨b2, 0, none⟩ = some (.int .i64 ref) := (World.cell?_alloc_lt _ _ _ (World.block_lt_of_cell? W ⟨b2, 0, none⟩ h2)).trans h2
 have e3 : (W.alloc (.cells #[.int .i64 x.f0, .int .i64 x.f1, .int .u8 x.f2, .int .i64 x.f3] 29)).cell? ⟨b, 0, none⟩ = some (.func (.func 72) #[] #[.pointer (some ⟨b1, 0, none⟩), .pointer (some ⟨b2, 0, none⟩)]) := (World.cell?_alloc_lt _ _ _ (World.block_lt_of_cell? W ⟨b, 0, none⟩ h3)).trans h3
 have HO := due_of1 kind ref x b1 b2 _ e1 e2
 generalize du_is kind ref x = r at HO ⊢
 have HB := Lib.hid hb
 clear e1 e2 hb
 go_enter Try.func59, Try.ntmps59
 go_wp2_with (go_at_call 72; refine HO.mono ?_; rintro e w3 ⟨rfl, hb3⟩)
 go_ret
 exact ⟨rfl, below_then HB.out HB.out.size hb3⟩

-- PXIMPORT YtlpbolkbdcgmnaaGRange
-- PXIMPORT Derived.LoopNIn
-- PXIMPORT Derived.LoopIn
/-! ### due_Drain: function 16, by hand -/
def due_Drain.f (k : Nat) (l0 : List (S29)) (a1 : Int) : Option ((List (S29)) × (List (S29)) × Int) := heap_fit l0 ((heap_Check.f k l0).bind fun why => some (if why = 0 then ((du_pops a1 l0.length l0).2, (du_pops a1 l0.length l0).1, 0) else ([], [], why)))
theorem due_Drain.mono : ∀ a0 a1 k, LeO (due_Drain.f k a0 a1) (due_Drain.f (k + 1) a0 a1) := fun a0 a1 k => heap_fit_le (LeO.bind (heap_Check.mono _ _) (fun _ => LeO.refl _))
attribute [local go_sem] Oper.semAt_some
set_option maxHeartbeats 2000000 in
set_option maxRecDepth 100000 in
theorem due_Drain.calls (k : Nat) (A0 : Option Addr) (c0 : Nat) (l0 : List (S29)) (a1 : Int) (r1 : List (S29)) (r2 : List (S29)) (r3 : Int) (w : World) (hr0 : Kd.C k29 w A0 l0.length l0) (hc0 : l0.length ≤ c0) (h : due_Drain.f k l0 a1 = some (r1, r2, r3)) :
  Calls Try.prog 16 #[.slice A0 l0.length c0, .int .i64 a1] w fun e w' => ∃ v0_ v1_ : Value, e = .returned (.tuple #[v0_, v1_, .int .i64 r3]) ∧ Kd.V k29 29 w' w.heap.size (fun k_ => (w.heap.size ≤ k_)) v0_ r1 ∧ Kd.V k29 29 w' w.heap.size (fun k_ => (w.heap.size ≤ k_)) v1_ r2 ∧ Below w.heap.size w w' := by
 have hu := Try.underlying29
 obtain ⟨hlen, h⟩ := heap_fit_some h
 obtain ⟨why, hch, h⟩ := Option.bind_eq_some_iff.mp h
 have HO := heap_Open k A0 c0 l0 why w hr0 hc0 hch hlen
 clear hr0 hch
 have H := Option.some.inj h
 clear h
 by_cases c : why = 0
 rotate_left
 ·rw [if_neg c] at H
  rw [if_neg c] at HO
  have d : (why != 0) = true := bne_iff_ne.mpr c
  simp only [Prod.mk.injEq] at H
  obtain ⟨rfl, rfl, rfl⟩ := H
  go_enter Try.func16, Try.ntmps16
  go_wp2_with (go_at_call 46; refine HO.mono ?_; rintro e w3 ⟨g, rfl, hq3, hb3⟩)
  refine bodyPost_ret (v := .tuple #[.slice none 0 0, .slice none 0 0, .int .i64 why]) (by simp [results, Try.results16, go_sem]) rfl ⟨_, _, rfl, Kd.V_nil _ _ _ _ _, Kd.V_nil _ _ _ _ _, hb3⟩
 ·rw [if_pos c] at H HO
  subst c
  simp only [Prod.mk.injEq] at H
  obtain ⟨hr1, hr2, rfl⟩ := H
  have HR1 := Lib.hid hr1
  have HR2 := Lib.hid hr2
  clear hr1 hr2
  have HO2 := (callsIn_wide (n := 2)).2 HO
  refine (callsIn_wide (n := 3)).1 (callsIn_of_wp_marks Try.func16 rfl trivial ?_)
  simp only [Try.ntmps16, List.size_toArray, List.length_cons, List.length_nil, Nat.reduceAdd, Nat.reduceSub, Array.replicate_succ, Array.replicate_zero, List.push_toArray, List.append_toArray, List.nil_append, List.cons_append]
  gi_wp2_with (first | (refine ⟨trivial, ?_⟩; gi_at_call 46; refine HO2.mono ?_; rintro e w3 ⟨g, rfl, hq3, hb3⟩; have HQ3 := Lib.hid hq3; have HB3 := Lib.hid hb3; clear hq3 hb3) | (refine ⟨trivial, ?_⟩; gi_at_call 48; refine ((callsIn_wide (n := 2)).2 (due_Until _ _ _)).mono ?_; rintro e w5 ⟨rfl, rfl⟩))
  have eg : ∀ args w, (callFunc 66 args).run Try.prog w = .ok (.enter 66 args) w := enters_of Try.func66 (by kernel_rfl) rfl
  have hz0 : ((((w3.alloc (.cells #[.slice none 0 0] 22)).alloc (.cells #[.pointer (some ⟨g, 0, none⟩)] 59)).alloc (.cells #[.int .i64 a1] 2))).heap.size = w3.heap.size + 3 := by simp
  have hb0 : Below w3.heap.size w3 (((w3.alloc (.cells #[.slice none 0 0] 22)).alloc (.cells #[.pointer (some ⟨g, 0, none⟩)] 59)).alloc (.cells #[.int .i64 a1] 2)) := below_alloc (below_alloc (below_alloc (Below.refl _ _) _) _) _
  have ho0 : (((w3.alloc (.cells #[.slice none 0 0] 22)).alloc (.cells #[.pointer (some ⟨g, 0, none⟩)] 59)).alloc (.cells #[.int .i64 a1] 2)).heap[w3.heap.size]? = some (.cells #[.slice none 0 0] 22 (0, 0)) := blk_alloc (blk_alloc (blk_new _ _) _) _
  have hc1 : (((w3.alloc (.cells #[.slice none 0 0] 22)).alloc (.cells #[.pointer (some ⟨g, 0, none⟩)] 59)).alloc (.cells #[.int .i64 a1] 2)).heap[w3.heap.size + 1]? = some (.cells #[.pointer (some ⟨g, 0, none⟩)] 59 (0, 0)) := blk_alloc (by have := blk_new (w3.alloc (.cells #[.slice none 0 0] 22)) (.cells #[.pointer (some ⟨g, 0, none⟩)] 59); rwa [World.size_alloc] at this) _
  have hc2 : (((w3.alloc (.cells #[.slice none 0 0] 22)).alloc (.cells #[.pointer (some ⟨g, 0, none⟩)] 59)).alloc (.cells #[.int .i64 a1] 2)).heap[w3.heap.size + 1 + 1]? = some (.cells #[.int .i64 a1] 2 (0, 0)) := by have := blk_new ((w3.alloc (.cells #[.slice none 0 0] 22)).alloc (.cells #[.pointer (some ⟨g, 0, none⟩)] 59)) (.cells #[.int .i64 a1] 2); simpa only [World.size_alloc] using this
  generalize (((w3.alloc (.cells #[.slice none 0 0] 22)).alloc (.cells #[.pointer (some ⟨g, 0, none⟩)] 59)).alloc (.cells #[.int .i64 a1] 2)) = W0 at hz0 hb0 ho0 hc1 hc2 ⊢
  obtain ⟨s, hs⟩ : ∃ s, s = w3.heap.size := ⟨_, rfl⟩
  have hws : w.heap.size ≤ s := by rw [hs]; exact HB3.out.size
  have hq0 := HQ3.out.below hb0
  rw [← hs] at hz0 ho0 hc1 hc2 hq0 ⊢
  have hbw : Below w.heap.size w W0 := HB3.out.trans (hb0.mono HB3.out.size)
  have d1 := blk_cell hc1 0
  have d2 := blk_cell hc2 0
  simp only [List.getElem?_toArray, List.getElem?_cons_zero] at d1 d2
  clear hb0 HO HO2 hc1 hc2 hs
  refine wpIn_rangeFunc_cells (α := S29) rfl (by omega) (gf := 66) (lb := #[.pointer (some ⟨s + 1, 0, none⟩), .pointer (some ⟨s + 1 + 1, 0, none⟩)]) rfl trivial eg
   (encs := fun x => #[.agg #[.int .i64 x.f0, .int .i64 x.f1, .int .u8 x.f2, .int .i64 x.f3]]) (fun _ => rfl) (fun k => w.heap.size ≤ k ∧ k < s) (fun k => k = s) (fun k hk => by omega) (fun k hk => by omega) l0.length
   (fun pre W => ∃ v, W.heap[s]? = some (.cells #[v] 22 (0, 0)) ∧ (∀ k, v.ownBlock = some k → s + 5 ≤ k) ∧ TRow tm_enc 4 29 W v pre ∧ Below w.heap.size w W)
   (fun xs W => xs = (du_pops a1 l0.length l0).1 ∧ HQ (fun k => w.heap.size ≤ k ∧ k < s) g W (du_pops a1 l0.length l0).2)
   ?hI ?hD ?hseq ?h0
   (fun x W => { tmps := #[.slice A0 l0.length c0, .int .i64 a1, undef, undef, .slice none 0 0, .slice none 0 0, .int .i64 0, .pointer (some ⟨g, 0, none⟩), .int .i64 0, .pointer (some ⟨s, 0, none⟩), .pointer (some ⟨W.heap.size, 0, none⟩), .tuple #[.pointer (some ⟨g, 0, none⟩), .int .i64 0], .slice A0 l0.length c0, .tuple #[.pointer (some ⟨g, 0, none⟩), .int .i64 0], .pointer (some ⟨g, 0, none⟩), .int .i64 0, .int .i64 0, .bool false, undef, .pointer (some ⟨g, 0, none⟩), .int .i64 a1, .func (.func 66) #[] #[.pointer (some ⟨s + 1, 0, none⟩), .pointer (some ⟨s + 1 + 1, 0, none⟩)], .agg #[.int .i64 x.f0, .int .i64 x.f1, .int .u8 x.f2, .int .i64 x.f3], undef, undef, undef, undef, undef, undef, undef], defers := [] })
   (fun x W => W.alloc (.cells #[.int .i64 x.f0, .int .i64 x.f1, .int .u8 x.f2, .int .i64 x.f3] 29)) (fun x W => below_alloc (Below.refl _ _) _) ?assign ?body ?done
  case hI =>
   rintro pre W W' ⟨v, e1, e2, e3, e4⟩ hm
   have nk : ∀ k, k = s ∨ s + 5 ≤ k → ¬ ((w.heap.size ≤ k ∧ k < s) ∨ Keeping W0.heap.size k) := fun k hk h => by unfold Keeping at h; omega
   exact ⟨v, (hm.block _ (blk_lt e1) (nk s (.inl rfl))).trans e1, e2, e3.moved (fun k hk => hm.block k (e3.lt k hk) (nk k (.inr (e2 k hk)))), e4.trans (hm.under e4.size (fun k hk => by unfold Keeping at hk; omega))⟩
  case hD =>
   rintro xs W W' ⟨e1, e2⟩ hm
   exact ⟨e1, e2.far hm (fun k hk h => by unfold Keeping at h; omega)⟩
  case hseq =>
   intro J W hbW hJ hY h0
   refine (callsIn_wide (n := 2)).2 ((due_until1 (fun k => w.heap.size ≤ k ∧ k < s) (fun k => k = s ∨ W0.heap.size ≤ k) s g (s + 1) (s + 1 + 1) (W0.heap.size + 1) a1 l0 J (by omega) (fun k hk => hk.2) (by omega) (by omega) (fun k hk h => by omega) (by omega) (by omega) hJ hY W (by have := hbW.size; omega) (hq0.below hbW) ((hbW.cell (p := ⟨s + 1, 0, none⟩) (by simp only; omega)).trans d1) ((hbW.cell (p := ⟨s + 1 + 1, 0, none⟩) (by simp only; omega)).trans d2) h0).mono ?_)
   rintro e W' ⟨hv, hj, hq⟩
   exact ⟨hv, _, ⟨rfl, hq⟩, hj⟩
  case h0 => exact ⟨_, ho0, fun k hk => by simp [Value.ownBlock] at hk, TRow.nil _ _ _ _, hbw⟩
  case assign =>
   intro l x W K hK
   gi_wp2
   exact hK
  case body =>
   rintro l pre x W W2 ⟨v, e1, e2, e3, e4⟩ hlt hsz hm
   have nk : ∀ k, k = s ∨ s + 5 ≤ k → ¬ Keeping W0.heap.size k := fun k hk h => by unfold Keeping at h; omega
   have hbl := below_alloc (Below.refl W.heap.size W) (.cells #[.int .i64 x.f0, .int .i64 x.f1, .int .u8 x.f2, .int .i64 x.f3] 29)
   have hbx := (hm.block _ (by simp) (nk W.heap.size (.inr (by omega)))).trans (blk_new W (.cells #[.int .i64 x.f0, .int .i64 x.f1, .int .u8 x.f2, .int .i64 x.f3] 29))
   have hsl : s < W.heap.size := blk_lt e1
   have f1 := (hm.block s (by simp; omega) (nk s (.inl rfl))).trans ((hbl.block s hsl).trans e1)
   have f3 : TRow tm_enc 4 29 W2 v pre := e3.moved (fun k hk => (hm.block k (by have := e3.lt k hk; simp; omega) (nk k (.inr (e2 k hk)))).trans (hbl.block k (e3.lt k hk)))
   have f4 : Below w.heap.size w W2 := e4.trans ((hbl.mono e4.size).trans (hm.under (Nat.le_trans e4.size hbl.size) (fun k hk => by unfold Keeping at hk; omega)))
   have hs2 : W.heap.size + 1 ≤ W2.heap.size := by have := hm.size; simpa using this
   obtain ⟨q, hq⟩ : ∃ q, q = W.heap.size := ⟨_, rfl⟩
   rw [← hq] at hbx hsz hs2 hsl ⊢
   clear e1 e3 e4 hm hbl hq
   obtain ⟨A, c, rfl, hlc⟩ := f3.slice
   have x0 := blk_cell hbx 0
   have x1 := blk_cell hbx 1
   have x2 := blk_cell hbx 2
   have x3 := blk_cell hbx 3
   have s0 := blk_cell f1 0
   simp only [List.getElem?_toArray, List.getElem?_cons_zero, List.getElem?_cons_succ] at x0 x1 x2 x3 s0
   have hnew := take_new (w := W2) (.cells #[.int .i64 x.f0, .int .i64 x.f1, .int .u8 x.f2, .int .i64 x.f3] 29)
   have hb2 := below_alloc (Below.refl W2.heap.size W2) (.cells #[.int .i64 x.f0, .int .i64 x.f1, .int .u8 x.f2, .int .i64 x.f3] 29)
   have g3 : TRow tm_enc 4 29 (W2.alloc (.cells #[.int .i64 x.f0, .int .i64 x.f1, .int .u8 x.f2, .int .i64 x.f3] 29)) (.slice A pre.length c) pre := f3.moved (fun k hk => hb2.block k (f3.lt k hk))
   obtain ⟨i0, hi0, hz1⟩ := info_parts info29
   obtain ⟨v5, w5, hrun, ht5, hgr5, hat5⟩ := run_append_trow (P := Try.prog) (T := 22) (ty := 22) (enc := tm_enc) (sz := 4) Try.underlying22 hi0 hz1.1 hz1.2.1 rfl (by rw [hz1.2.2]; decide) (fun _ => rfl) (fun y u hu => by simp [tm_enc] at hu; rcases hu with rfl | rfl | rfl | rfl <;> rfl) g3 x W2.heap.size (fun t u hu => by
    rw [blk_cell hnew, ← hu]
    unfold tm_enc
    rw [List.getElem?_toArray]) (by rw [hz1.2.2]; omega)
   have hne5 : (Value.slice A pre.length c).ownBlock ≠ some s := fun e => by have := e2 s e; omega
   have hb1 := (hb2.block s (blk_lt f1)).trans f1
   have hs5 := (hgr5.block s (blk_lt hb1) (fun e => hne5 e.symm)).trans hb1
   have s5 := blk_cell hs5 0
   have fs5 := blk_frozen hs5 0
   simp only [List.getElem?_toArray, List.getElem?_cons_zero] at s5
   have hm5 : Mv (fun k => k = s ∨ W0.heap.size + 2 ≤ k) W2 w5 := (Mv.of_below hb2 _).grown hgr5 (fun k hk => .inl (.inr (by have := e2 k hk; omega)))
   have hm6 := hm5.set (p := ⟨s, 0, none⟩) (.inl (.inl rfl)) v5
   have hst := blk_set hs5 0 v5
   have hne6 : ∀ k, v5.ownBlock = some k → s + 5 ≤ k := fun k hk => by
    rcases hat5 with h | h
    ·exact e2 k (h ▸ hk)
    ·rw [h] at hk
     injection hk with hk
     have : W2.heap.size + 1 = (W2.alloc (.cells #[.int .i64 x.f0, .int .i64 x.f1, .int .u8 x.f2, .int .i64 x.f3] 29)).heap.size := (World.size_alloc _ _).symm
     omega
   obtain ⟨A5, c5, rfl, hlc5⟩ := ht5.slice
   have ht6 := ht5.moved (w' := w5.setCell ⟨s, 0, none⟩ (.slice A5 (pre ++ [x]).length c5)) (fun k hk => Below.heap_setCell _ ⟨s, 0, none⟩ _ k (fun e => by have := hne6 k hk; simp only at e; omega))
   have hbf : Below w.heap.size w (w5.setCell ⟨s, 0, none⟩ (.slice A5 (pre ++ [x]).length c5)) := f4.trans (hm6.under f4.size (fun k hk => by omega))
   have HF := Lib.hid (And.intro hst (And.intro hne6 (And.intro ht6 (And.intro hbf hm6))))
   clear hst hne6 ht6 hbf hm6 hm5 hs5 hb1 hne5 hat5 hgr5 ht5 hi0 hz1 g3 hb2 hnew f1 f3 f4 hbx
   have HRUN := Lib.hid hrun
   clear hrun
   gi_wp2_with (gi_at_builtin; refine wpListIn_append_run rfl _ _ 22 rfl rfl rfl HRUN.out ?_)
   have hal : (pre ++ [x]).length = pre.length + 1 := by simp
   have hf := HF.out
   simp only [hal, hz0] at hf
   exact ⟨⟨_, hf.1, hf.2.1, hf.2.2.1, hf.2.2.2.1⟩, hf.2.2.2.2⟩
  case done =>
   rintro xs W ⟨rfl, hq⟩ ⟨v, e1, e2, e3, e4⟩ hK
   rw [hz0] at hK ⊢
   obtain ⟨A, c, hrow, _⟩ := hq.all
   obtain ⟨A5, c5, rfl, hlc5⟩ := e3.slice
   have mixed : Try.prog.follows Departure.mixedOrders = true := by kernel_rfl
   have HA := queue_all g A _ c W.drew hrow
   have s0 := blk_cell e1 0
   simp only [List.getElem?_toArray, List.getElem?_cons_zero] at s0
   have hm : Mv (fun k => k = s + 3) W (W.drew.putObj (s + 3) (.deferred none)) := ⟨rfl, rfl, rfl, Nat.le_of_eq World.putObj_size.symm, fun k _ hn => World.putObj_heap_other hn⟩
   have hm2 : Mv (fun k => k = s + 3) W (W.putObj (s + 3) (.deferred none)) := ⟨rfl, rfl, rfl, Nat.le_of_eq World.putObj_size.symm, fun k _ hn => World.putObj_heap_other hn⟩
   have fin : ∀ W', Mv (fun k => k = s + 3) W W' → Kd.V k29 29 W' w.heap.size (fun k_ => (w.heap.size ≤ k_)) (.slice A (du_pops a1 l0.length l0).2.length c) r1 ∧ Kd.V k29 29 W' w.heap.size (fun k_ => (w.heap.size ≤ k_)) (.slice A5 (du_pops a1 l0.length l0).1.length c5) r2 ∧ Below w.heap.size w W' := by
    intro W' hmw
    refine ⟨?_, ?_, e4.trans (hmw.under e4.size (fun k hk => by omega))⟩
    ·rw [← HR1.out]
     exact (hq.far hmw (fun k hk h => by omega)).toV ((hmw.block g (blk_lt hrow) (fun h => by have := hq.1; omega)).trans hrow) (fun k hk => hk.1)
    ·rw [← HR2.out]
     exact (e3.moved (fun k hk => hmw.block k (e3.lt k hk) (fun h => by have := e2 k hk; omega))).toV (d := k29) (fun w x => k29_mk w x) (fun _ => rfl) rfl w.heap.size (fun k hk => by have := e2 k hk; omega)
   have HFIN := Lib.hid fin
   have HM := Lib.hid hm
   have HM2 := Lib.hid hm2
   have HK := Lib.hid hK
   clear fin hm hm2 hK e1 e2 e3 e4 hq hrow
   generalize (du_pops a1 l0.length l0).2.length = n1 at HFIN HA
   generalize (du_pops a1 l0.length l0).1.length = n2 at HFIN s0
   gi_wp2
   refine (wpIn_wide (n := 3)).2 (wp_byEnd ?_)
   go_region_with_o (go_at_call 49; refine HA.mono ?_; rintro e w5 ⟨rfl, rfl⟩)
   all_goals refine byEnd_normal ?_
   all_goals gi_wp2
   all_goals
    refine ⟨by simp, .inl ⟨_, _, rfl, run_takeDeferred (w := W.drew) HK.out, ?_⟩⟩
    obtain ⟨f1, f2, f3⟩ := HFIN.out _ HM.out
    exact ⟨.tuple #[.slice A n1 c, .slice A5 n2 c5, .int .i64 0], by simp [results, Try.results16, go_sem], _, _, rfl, f1, f2, f3⟩


end Go.Proofs.Ytlpbolkbdcgmnaa.XD
-- squeezed
