-- by px.py, a program of this session, over the kit's printer: functions given by hand stand beside printed ones. Lean checks all of it.
import Derived.Test.YtlpbolkbdcgmnaaXD0
import Derived.Test.YtlpbolkbdcgmnaaXD3
import Derived.Lib.AppendZeros
import Derived.Deep.RegionLaw
namespace Go.Proofs.Ytlpbolkbdcgmnaa.XD
open Go.RowKit Go.Proofs.YtlpbolkbdcgmnaaW.PrintWords Go.Proofs.YtlpbolkbdcgmnaaW.PrintLast Go.Proofs.YtlpbolkbdcgmnaaW.PrintMore
attribute [local go_sem] max2_int min2_int max_two min_two max_three min_three max_four min_four   -- for this text's walks alone
set_option linter.unusedVariables false
set_option linter.unusedSimpArgs false

/-! ### heap_Queue_Cancel: function 47, by hand -/
theorem take_new {w : World} (o : Obj) : (w.alloc o).heap[w.heap.size]? = some o := by
 show (w.heap.push o)[w.heap.size]? = _
 rw [Array.getElem?_push, if_pos rfl]
set_option maxHeartbeats 2000000 in
set_option maxRecDepth 100000 in
theorem queue_pop (P : Nat → Prop) (g : Nat) (l : List S29) (w : World) (hL : l.length ≤ 4398046511104) (hP : ∀ k, P k → k < w.heap.size) (hq : HQ P g w l) :
  Calls Try.prog 55 #[.pointer (some ⟨g, 0, none⟩)] w fun e w' => e = .returned (.tuple #[.agg #[.int .i64 (Hp.g z29 l 0).f0, .int .i64 (Hp.g z29 l 0).f1, .int .u8 (Hp.g z29 l 0).f2, .int .i64 (Hp.g z29 l 0).f3], .int .i64 (if l.length = 0 then 3 else 0)]) ∧ HQ P g w' (if l.length = 0 then [] else Hp.take_ z29 tm_lt l 0) ∧ Mv P w w' := by
 have hu := Try.underlying29
 obtain ⟨hPg, v, hrow, hPv, htr⟩ := hq
 obtain ⟨A, c, rfl, hlc⟩ := htr.slice
 have hgw : g < w.heap.size := blk_lt hrow
 have hc := blk_cell hrow 0
 simp only [List.getElem?_toArray, List.getElem?_cons_zero] at hc
 have hne : g ≠ w.heap.size := by omega
 have HQ0 := Lib.hid (show HQ P g w l from ⟨hPg, _, hrow, hPv, htr⟩)
 have hPs : ¬ P w.heap.size := fun h => by have := hP _ h; omega
 clear hrow htr hPv
 by_cases h0 : l.length = 0
 ·obtain rfl : l = [] := List.eq_nil_of_length_eq_zero h0
  have HB := below_alloc (Below.refl w.heap.size w) (.cells #[.int .i64 0, .int .i64 0, .int .u8 0, .int .i64 0] 29)
  have HQ1 := Lib.hid (HQ0.out.below HB)
  have HM1 := Lib.hid (Mv.of_below HB P)
  clear HB
  simp only [List.length_nil] at hc
  go_enter Try.func55, Try.ntmps55
  go_wp2
  refine bodyPost_ret (v := .tuple #[.agg #[.int .i64 0, .int .i64 0, .int .u8 0, .int .i64 0], .int .i64 3]) (by simp [results, Try.results55, go_sem]) rfl ⟨rfl, HQ1.out, HM1.out⟩
 ·have HT := queue_take P g l 0 (w.alloc (.cells #[.int .i64 0, .int .i64 0, .int .u8 0, .int .i64 0] 29)) (by omega) hL (fun k hk => by have := hP k hk; simp; omega) (HQ0.out.below (below_alloc (Below.refl _ _) _))
  have hA := take_new (w := w) (.cells #[.int .i64 0, .int .i64 0, .int .u8 0, .int .i64 0] 29)
  have HM1 := Mv.of_below (below_alloc (Below.refl w.heap.size w) (.cells #[.int .i64 0, .int .i64 0, .int .u8 0, .int .i64 0] 29)) P
  rw [if_neg h0, if_neg h0]
  have d0 : ((l.length : Int) == 0) = false := beq_eq_false_iff_ne.mpr (by omega)
  have d1 : ((l.length : Int) = 0) = False := eq_false (by omega)
  generalize Hp.g z29 l 0 = x at HT ⊢
  generalize Hp.take_ z29 tm_lt l 0 = l2 at HT ⊢
  have HA := Lib.hid hA; clear hA
  have HM := Lib.hid HM1; clear HM1
  obtain ⟨s, hs⟩ : ∃ s, s = w.heap.size := ⟨_, rfl⟩
  have HS := Lib.hid hs
  go_enter Try.func55, Try.ntmps55
  clear hs
  go_wp2_with (go_at_call 65; refine HT.mono ?_; rintro e w3 ⟨rfl, hq3, hm3⟩; have HA3 := Lib.hid (hm3.blk HA.out hPs); have HQ3 := Lib.hid hq3; have HM3 := Lib.hid (HM.out.then_ hm3 (fun _ h => .inl h)); clear hq3 hm3; have a0 := blk_cell HA3.out 0; have a1 := blk_cell HA3.out 1; have a2 := blk_cell HA3.out 2; have a3 := blk_cell HA3.out 3; have b0 := blk_frozen HA3.out 0; have b1 := blk_frozen HA3.out 1; have b2 := blk_frozen HA3.out 2; have b3 := blk_frozen HA3.out 3; simp only [List.getElem?_toArray, List.getElem?_cons_zero, List.getElem?_cons_succ] at a0 a1 a2 a3)
  obtain ⟨hqz, hmz⟩ := HQ3.out.set4 HM3.out hPs (Nat.le_refl _) (.int .i64 x.f0) (.int .i64 x.f1) (.int .u8 x.f2) (.int .i64 x.f3)
  refine bodyPost_ret (v := .tuple #[.agg #[.int .i64 x.f0, .int .i64 x.f1, .int .u8 x.f2, .int .i64 x.f3], .int .i64 0]) (by simp [results, Try.results55, go_sem, a0, a1, a2, a3, b0, b1, b2, b3]) rfl ⟨rfl, hqz, hmz⟩
theorem hp_find_lt (seq : Int) (l : List S29) (h : 0 ≤ hp_find seq l) : (hp_find seq l).toNat < l.length := by
 letI : Inhabited S29 := ⟨z29⟩
 have gen : ∀ (l : List S29) (i : Nat), Lib.idxByFrom (fun _ y => hp_is seq y) z29 l i = -1 ∨ (i : Int) ≤ Lib.idxByFrom (fun _ y => hp_is seq y) z29 l i ∧ Lib.idxByFrom (fun _ y => hp_is seq y) z29 l i < (i : Int) + l.length := by
  intro l
  induction l with
  | nil => intro i; exact .inl rfl
  | cons y l ih =>
   intro i
   simp only [Lib.idxByFrom]
   split
   ·right; simp; omega
   ·rcases ih (i + 1) with h | ⟨h1, h2⟩
    ·exact .inl h
    ·right
     simp only [List.length_cons]
     omega
 have h2 := gen l 0
 unfold hp_find Lib.idxBy at *
 omega
set_option maxHeartbeats 2000000 in
set_option maxRecDepth 100000 in
theorem queue_cancel (P : Nat → Prop) (g : Nat) (l : List S29) (seq : Int) (w : World) (hL : l.length ≤ 4398046511104) (hP : ∀ k, P k → k < w.heap.size) (hq : HQ P g w l) :
  Calls Try.prog 47 #[.pointer (some ⟨g, 0, none⟩), .int .i64 seq] w fun e w' => ∃ x : S29, (x = if hp_find seq l < 0 then z29 else Hp.g z29 l (hp_find seq l).toNat) ∧ e = .returned (.tuple #[.agg #[.int .i64 x.f0, .int .i64 x.f1, .int .u8 x.f2, .int .i64 x.f3], .int .i64 (if hp_find seq l < 0 then 3 else 0)]) ∧ HQ P g w' (if hp_find seq l < 0 then l else Hp.take_ z29 tm_lt l (hp_find seq l).toNat) ∧ Mv P w w' := by
 have hu := Try.underlying29
 have hgw : g < w.heap.size := by obtain ⟨_, v, hrow, _⟩ := hq; exact blk_lt hrow
 have hne : g ≠ w.heap.size := by omega
 have hPs : ¬ P w.heap.size := fun h => by have := hP _ h; omega
 have hA := take_new (w := w) (.cells #[.int .i64 0, .int .i64 0, .int .u8 0, .int .i64 0] 29)
 have hbl := (below_alloc (Below.refl w.heap.size w) (.cells #[.int .i64 0, .int .i64 0, .int .u8 0, .int .i64 0] 29))
 have HF := queue_find P g l seq (w.alloc (.cells #[.int .i64 0, .int .i64 0, .int .u8 0, .int .i64 0] 29)) (hq.below hbl)
 have HTT := fun (i : Nat) (hi : i < l.length) (W : World) (hW : Below (w.alloc (.cells #[.int .i64 0, .int .i64 0, .int .u8 0, .int .i64 0] 29)).heap.size (w.alloc (.cells #[.int .i64 0, .int .i64 0, .int .u8 0, .int .i64 0] 29)) W) => queue_take P g l i W hi hL (fun k hk => by have := hP k hk; have := hW.size; simp at this; omega) ((hq.below hbl).below hW)
 have HQ1 := Lib.hid (hq.below hbl)
 have HM := Lib.hid (Mv.of_below hbl P)
 have HA := Lib.hid hA
 clear hA hq
 by_cases hf : hp_find seq l < 0
 ·rw [if_pos hf, if_pos hf, if_pos hf]
  generalize hp_find seq l = r at HF hf
  have d0 : decide (r < 0) = true := decide_eq_true hf
  go_enter Try.func47, Try.ntmps47
  go_wp2_with (go_at_call 64; refine HF.mono ?_; rintro e w3 ⟨rfl, hb3⟩; have HA3 := Lib.hid ((hb3.block _ (blk_lt HA.out)).trans HA.out); have HQ3 := Lib.hid (HQ1.out.below hb3); have HM3 := Lib.hid (HM.out.below hb3); clear hb3; have a0 := blk_cell HA3.out 0; have a1 := blk_cell HA3.out 1; have a2 := blk_cell HA3.out 2; have a3 := blk_cell HA3.out 3; have b0 := blk_frozen HA3.out 0; have b1 := blk_frozen HA3.out 1; have b2 := blk_frozen HA3.out 2; have b3 := blk_frozen HA3.out 3; simp only [List.getElem?_toArray, List.getElem?_cons_zero, List.getElem?_cons_succ] at a0 a1 a2 a3)
  obtain ⟨hqz, hmz⟩ := HQ3.out.set4 HM3.out hPs (Nat.le_refl _) (.int .i64 0) (.int .i64 0) (.int .u8 0) (.int .i64 0)
  refine bodyPost_ret (v := .tuple #[.agg #[.int .i64 0, .int .i64 0, .int .u8 0, .int .i64 0], .int .i64 3]) (by simp [results, Try.results47, go_sem, a0, a1, a2, a3, b0, b1, b2, b3]) rfl ⟨_, rfl, rfl, hqz, hmz⟩
 ·have hidx := hp_find_lt seq l (by omega)
  rw [if_neg hf, if_neg hf, if_neg hf]
  obtain ⟨i, hi⟩ : ∃ i : Nat, hp_find seq l = (i : Int) := ⟨(hp_find seq l).toNat, by omega⟩
  rw [hi] at HF hf hidx ⊢
  clear hi
  simp only [Int.toNat_natCast] at hidx ⊢
  have HT2 := fun W hW => HTT i hidx W hW
  clear HTT
  generalize Hp.g z29 l i = x at HT2 ⊢
  generalize Hp.take_ z29 tm_lt l i = l2 at HT2 ⊢
  have d0 : decide ((i : Int) < 0) = false := decide_eq_false (by omega)
  have d1 : ¬ ((i : Int) < 0) := by omega
  go_enter Try.func47, Try.ntmps47
  go_upto_region 4 with (go_at_call 64; refine HF.mono ?_; rintro e w2 ⟨rfl, hb2⟩; have HB2 := Lib.hid hb2; clear hb2)
  have HTW := HT2 _ HB2.out
  have HA2 := Lib.hid ((HB2.out.block _ (blk_lt HA.out)).trans HA.out)
  have HM2 := Lib.hid (HM.out.below HB2.out)
  clear HT2 HF HB2 HM HA
  go_wp2_with (go_at_call 65; refine HTW.mono ?_; rintro e w3 ⟨rfl, hq3, hm3⟩; have HA3 := Lib.hid (hm3.blk HA2.out hPs); have HQ3 := Lib.hid hq3; have HM3 := Lib.hid (HM2.out.then_ hm3 (fun _ h => .inl h)); clear hq3 hm3; have a0 := blk_cell HA3.out 0; have a1 := blk_cell HA3.out 1; have a2 := blk_cell HA3.out 2; have a3 := blk_cell HA3.out 3; have b0 := blk_frozen HA3.out 0; have b1 := blk_frozen HA3.out 1; have b2 := blk_frozen HA3.out 2; have b3 := blk_frozen HA3.out 3; simp only [List.getElem?_toArray, List.getElem?_cons_zero, List.getElem?_cons_succ] at a0 a1 a2 a3)
  obtain ⟨hqz, hmz⟩ := HQ3.out.set4 HM3.out hPs (Nat.le_refl _) (.int .i64 x.f0) (.int .i64 x.f1) (.int .u8 x.f2) (.int .i64 x.f3)
  refine bodyPost_ret (v := .tuple #[.agg #[.int .i64 x.f0, .int .i64 x.f1, .int .u8 x.f2, .int .i64 x.f3], .int .i64 0]) (by simp [results, Try.results47, go_sem, a0, a1, a2, a3, b0, b1, b2, b3]) rfl ⟨x, rfl, rfl, hqz, hmz⟩

-- PXIMPORT Derived.Lib.AppendZeros
-- PXIMPORT Derived.Deep.RegionLaw
/-! ### heap_Queue_Push: function 56, by hand -/
theorem HQ.pushed {P : Nat → Prop} {g : Nat} {w w1 : World} {v v1 : Value} {l' : List S29} (hPg : P g) (hrow : w.heap[g]? = some (.cells #[v] 62 (0, 0))) (hPv : ∀ k, v.ownBlock = some k → P k) (hb : ∀ k, v.ownBlock = some k → k ≠ g) (hgr : w.grownBy w1 v.ownBlock) (hat : v1.ownBlock = v.ownBlock ∨ v1.ownBlock = some w.heap.size) (ht : TRow tm_enc 4 29 w1 v1 l') {n : Nat} (hn : n ≤ w.heap.size) :
  HQ (fun k => P k ∨ (n ≤ k ∧ k < w1.heap.size)) g (w1.setCell ⟨g, 0, none⟩ v1) l' := by
 have hg1 : w1.heap[g]? = some (.cells #[v] 62 (0, 0)) := (hgr.block g (blk_lt hrow) (fun e => hb g e.symm rfl)).trans hrow
 have hs := blk_set hg1 0 v1
 refine ⟨.inl hPg, v1, hs, fun k hk => ?_, ht.moved (fun k hk => Below.heap_setCell _ ⟨g, 0, none⟩ _ k (fun e => ?_))⟩
 ·rcases hat with h | h
  ·exact .inl (hPv k (h ▸ hk))
  ·rw [h] at hk
   injection hk with hk
   subst hk
   exact .inr ⟨hn, ht.lt _ h⟩
 ·have hk2 := hk
  rcases hat with h | h
  ·exact hb k (h ▸ hk) e
  ·rw [h] at hk
   injection hk with hk
   have := blk_lt hrow
   change k = g at e
   omega
set_option maxHeartbeats 2000000 in
set_option maxRecDepth 100000 in
theorem queue_push (P : Nat → Prop) (g : Nat) (l : List S29) (x : S29) (w : World) (hL : l.length < 4398046511104) (hP : ∀ k, P k → k < w.heap.size) (hq : HQ P g w l) :
  Calls Try.prog 56 #[.pointer (some ⟨g, 0, none⟩), .agg #[.int .i64 x.f0, .int .i64 x.f1, .int .u8 x.f2, .int .i64 x.f3]] w fun e w' => e = .returned (.int .i64 (if 0 ≤ hp_find x.f1 l then 4 else if l.length = 4096 then 8 else 0)) ∧ HQ (fun k => P k ∨ (w.heap.size ≤ k ∧ k < w'.heap.size)) g w' (if 0 ≤ hp_find x.f1 l then l else if l.length = 4096 then l else Hp.up z29 tm_lt l.length (l ++ [x]) l.length) ∧ Mv P w w' := by
 have hu := Try.underlying29
 have hgw : g < w.heap.size := by obtain ⟨_, v, hrow, _⟩ := hq; exact blk_lt hrow
 have hne : g ≠ w.heap.size := by omega
 have hPs : ¬ P w.heap.size := fun h => by have := hP _ h; omega
 have hbl := (below_alloc (Below.refl w.heap.size w) (.cells #[.int .i64 x.f0, .int .i64 x.f1, .int .u8 x.f2, .int .i64 x.f3] 29))
 have HF := queue_find P g l x.f1 (w.alloc (.cells #[.int .i64 x.f0, .int .i64 x.f1, .int .u8 x.f2, .int .i64 x.f3] 29)) (hq.below hbl)
 have HA := Lib.hid (take_new (w := w) (.cells #[.int .i64 x.f0, .int .i64 x.f1, .int .u8 x.f2, .int .i64 x.f3] 29))
 have HQ1 := Lib.hid (hq.below hbl)
 have HM := Lib.hid (Mv.of_below hbl P)
 have HP := Lib.hid hP
 clear hq hbl hP
 generalize hp_find x.f1 l = r at HF ⊢
 by_cases hf : 0 ≤ r
 ·rw [if_pos hf, if_pos hf]
  have d0 : decide (0 ≤ r) = true := decide_eq_true hf
  go_enter Try.func56, Try.ntmps56
  go_wp2_with (go_at_call 64; refine HF.mono ?_; rintro e w3 ⟨rfl, hb3⟩; have HQ3 := Lib.hid (HQ1.out.below hb3); have HM3 := Lib.hid (HM.out.below hb3); clear hb3)
  go_ret
  exact ⟨rfl, HQ3.out.mono (fun k hk => .inl hk), HM3.out⟩
 ·rw [if_neg hf, if_neg hf]
  have d0 : decide (0 ≤ r) = false := decide_eq_false hf
  have hf2 : r < 0 := by omega
  by_cases hm : l.length = 4096
  ·rw [if_pos hm, if_pos hm]
   have d1 : ((l.length : Int) == 4096) = true := beq_iff_eq.mpr (by omega)
   have d2 : ((l.length : Int) = 4096) = True := eq_true (by omega)
   have HMM := Lib.hid hm
   clear hm
   go_enter Try.func56, Try.ntmps56
   go_wp2_with (go_at_call 64; refine HF.mono ?_; rintro e w3 ⟨rfl, hb3⟩; have HQ3 := Lib.hid (HQ1.out.below hb3); have HM3 := Lib.hid (HM.out.below hb3); clear hb3; obtain ⟨hPg3, v3, hrow3, hPv3, htr3⟩ := HQ3.out; obtain ⟨A3, c3, rfl, hlc3⟩ := htr3.slice; have hc3 := blk_cell hrow3 0; simp only [List.getElem?_toArray, List.getElem?_cons_zero] at hc3; clear hrow3 htr3 hPv3)
   go_ret
   exact ⟨rfl, HQ3.out.mono (fun k hk => .inl hk), HM3.out⟩
  ·rw [if_neg hm, if_neg hm]
   have d1 : ((l.length : Int) == 4096) = false := beq_eq_false_iff_ne.mpr (by omega)
   have d2 : ((l.length : Int) = 4096) = False := eq_false (by omega)
   have HMM := Lib.hid hm
   clear hm
   go_enter Try.func56, Try.ntmps56
   go_upto_region 5 with (go_at_call 64; refine HF.mono ?_; rintro e w3 ⟨rfl, hb3⟩; have HQ3 := Lib.hid (HQ1.out.below hb3); have HM3 := Lib.hid (HM.out.below hb3); have HA3 := Lib.hid ((hb3.block _ (blk_lt HA.out)).trans HA.out); clear hb3; obtain ⟨hPg3, v3, hrow3, hPv3, htr3⟩ := HQ3.out; obtain ⟨A3, c3, hv3, hlc3⟩ := htr3.slice; rw [hv3] at hrow3; have hc3 := blk_cell hrow3 0; simp only [List.getElem?_toArray, List.getElem?_cons_zero] at hc3; have HR3 := Lib.hid (And.intro hv3 (And.intro hrow3 (And.intro hPv3 htr3))); clear hrow3 htr3 hPv3 hv3)
   have x0 := blk_cell HA3.out 0
   have x1 := blk_cell HA3.out 1
   have x2 := blk_cell HA3.out 2
   have x3 := blk_cell HA3.out 3
   have fg := HR3.out.2.1
   replace fg := blk_frozen fg 0
   simp only [List.getElem?_toArray, List.getElem?_cons_zero, List.getElem?_cons_succ] at x0 x1 x2 x3
   obtain ⟨hv3, hrow3, hPv3, htr3⟩ := HR3.out
   rw [hv3] at hPv3 htr3
   have htr4 : TRow tm_enc 4 29 (w3.alloc (.cells #[.int .i64 x.f0, .int .i64 x.f1, .int .u8 x.f2, .int .i64 x.f3] 29)).drew (.slice A3 l.length c3) l := htr3.moved (fun k hk => (below_drew1 (below_alloc (Below.refl w3.heap.size w3) _)).block k (htr3.lt k hk))
   have hrow4 : (w3.alloc (.cells #[.int .i64 x.f0, .int .i64 x.f1, .int .u8 x.f2, .int .i64 x.f3] 29)).drew.heap[g]? = some (.cells #[.slice A3 l.length c3] 62 (0, 0)) := ((below_drew1 (below_alloc (Below.refl w3.heap.size w3) _)).block g (blk_lt hrow3)).trans hrow3
   have HM4 := HM3.out.below (below_drew1 (below_alloc (Below.refl w3.heap.size w3) (.cells #[.int .i64 x.f0, .int .i64 x.f1, .int .u8 x.f2, .int .i64 x.f3] 29)))
   obtain ⟨i0, hi0, hz0⟩ := info_parts info29
   have hnew : (w3.alloc (.cells #[.int .i64 x.f0, .int .i64 x.f1, .int .u8 x.f2, .int .i64 x.f3] 29)).drew.heap[w3.heap.size]? = some (.cells #[.int .i64 x.f0, .int .i64 x.f1, .int .u8 x.f2, .int .i64 x.f3] 29) := take_new (w := w3) (.cells #[.int .i64 x.f0, .int .i64 x.f1, .int .u8 x.f2, .int .i64 x.f3] 29)
   obtain ⟨v5, w5, hrun, ht5, hgr5, hat5⟩ := run_append_trow (P := Try.prog) (T := 22) (ty := 22) (enc := tm_enc) (sz := 4) Try.underlying22 hi0 hz0.1 hz0.2.1 rfl (by rw [hz0.2.2]; decide) (fun _ => rfl) (fun y u hu => by simp [tm_enc] at hu; rcases hu with rfl | rfl | rfl | rfl <;> rfl) htr4 x w3.heap.size (fun t u hu => by
    rw [blk_cell hnew, ← hu]
    unfold tm_enc
    rw [List.getElem?_toArray]) (by rw [hz0.2.2]; omega)
   have hqp := HQ.pushed (n := w.heap.size) hPg3 hrow4 hPv3 (fun k hk e => by
    obtain ⟨cur, hcur⟩ := htr4.typed k hk
    rw [e, hrow4] at hcur
    cases hcur) hgr5 hat5 ht5 HM4.size
   have hm5 : Mv P w w5 := HM4.grown hgr5 (fun k hk => .inl (hPv3 k hk))
   have hm6 := hm5.set (p := ⟨g, 0, none⟩) (.inl hPg3) v5
   have fg5 : w5.frozen? ⟨g, 0, none⟩ = false := blk_frozen ((hgr5.block g (blk_lt hrow4) (fun e => by
    obtain ⟨cur, hcur⟩ := htr4.typed g e.symm
    rw [hrow4] at hcur
    cases hcur)).trans hrow4) 0
   have cg5 : w5.cell? ⟨g, 0, none⟩ = some (.slice A3 l.length c3) := (blk_cell ((hgr5.block g (blk_lt hrow4) (fun e => by
    obtain ⟨cur, hcur⟩ := htr4.typed g e.symm
    rw [hrow4] at hcur
    cases hcur)).trans hrow4) 0).trans rfl
   have HQ6 := Lib.hid hqp
   have HM6 := Lib.hid hm6
   have HRUN := Lib.hid hrun
   have hgn : w3.heap.size ≠ g := World.new_ne w3 ⟨g, 0, none⟩ hc3
   have hgn2 : g ≠ w3.heap.size := fun e => hgn e.symm
   have hc4 : (w3.alloc (.cells #[.int .i64 x.f0, .int .i64 x.f1, .int .u8 x.f2, .int .i64 x.f3] 29)).cell? ⟨g, 0, none⟩ = some (.slice A3 l.length c3) := (World.cell?_alloc_lt _ _ _ (World.block_lt_of_cell? w3 ⟨g, 0, none⟩ hc3)).trans hc3
   have hv5 := ht5.slice
   obtain ⟨A5, c5, rfl, hlc5⟩ := hv5
   clear hqp hm6 hm5 hgr5 hat5 ht5 hnew HM4 hrow4 htr4 hPv3 htr3 hrow3 hv3 hi0 hz0 hrun
   go_region_law (refine event_step (w1 := w5) (v := .slice A5 (l ++ [x]).length c5) (by rfl) (by simp [execOp, resolve, invoke, builtin, Act.eval, Act.put, HRUN.out, Result.andThen]) ?_)
   all_goals
    have hal : (l ++ [x]).length = l.length + 1 := by simp
    obtain ⟨w6, hw6⟩ : ∃ w6, w6 = w5.setCell ⟨g, 0, none⟩ (.slice A5 (l.length + 1) c5) := ⟨_, rfl⟩
    rw [← hw6]
    rw [hal] at HQ6 HM6
    rw [← hw6] at HQ6 HM6
    have hsz : w6.heap.size = w5.heap.size := by rw [hw6]; simp [World.setCell]
    have HSZ := Lib.hid hsz
    have cg6 : w6.cell? ⟨g, 0, none⟩ = some (.slice A5 (l.length + 1) c5) := by
     rw [hw6]
     exact World.cell?_setCell_same _ _ _ (by rw [cg5])
    have HUP : Calls Try.prog 71 #[.pointer (some ⟨g, 0, none⟩), .int .i64 (l.length : Int)] w6 _ := queue_up (fun k => P k ∨ (w.heap.size ≤ k ∧ k < w5.heap.size)) g (l ++ [x]) l.length w6 (by simp) HQ6.out
    clear hw6 hsz cg5 fg5 HRUN x0 x1 x2 x3 hc3 hc4 fg
    go_wp2_with (go_at_call 71; refine HUP.mono ?_; rintro e w7 ⟨rfl, hq7, hm7⟩; have HQ7 := Lib.hid hq7; have HM7 := Lib.hid hm7; clear hq7 hm7)
    go_ret
    have hs7 := HM7.out.size
    have hz := HSZ.out
    exact ⟨rfl, HQ7.out.mono (fun k hk => hk.imp (fun h => h) (fun h => ⟨h.1, by omega⟩)), HM6.out.then_ HM7.out (fun k hk => hk.imp (fun h => h) (fun h => h.1))⟩

end Go.Proofs.Ytlpbolkbdcgmnaa.XD
-- squeezed
