-- by px.py, a program of this session, over the kit's printer: functions given by hand stand beside printed ones. Lean checks all of it.
import Derived.Test.YtlpbolkbdcgmnaaXD0
import Derived.Test.YtlpbolkbdcgmnaaXD3
import Derived.Test.YtlpbolkbdcgmnaaXD7
import Derived.Test.YtlpbolkbdcgmnaaQHeapS
import Derived.Test.YtlpbolkbdcgmnaaWGuard
import Derived.Deep.DeepCutAuto
import Derived.Deep.CutBlock
import Derived.BigQuiet
namespace Go.Proofs.Ytlpbolkbdcgmnaa.XD
open Go.RowKit Go.Proofs.YtlpbolkbdcgmnaaW.PrintWords Go.Proofs.YtlpbolkbdcgmnaaW.PrintLast Go.Proofs.YtlpbolkbdcgmnaaW.PrintMore
attribute [local go_sem] max2_int min2_int max_two min_two max_three min_three max_four min_four   -- for this text's walks alone
set_option linter.unusedVariables false
set_option linter.unusedSimpArgs false

-- PXIMPORT YtlpbolkbdcgmnaaQHeapS
-- PXIMPORT YtlpbolkbdcgmnaaWGuard
-- PXIMPORT Derived.Deep.DeepCutAuto
-- PXIMPORT Derived.Deep.CutBlock
-- PXIMPORT Derived.BigQuiet
/-! ### bellmanref15_Sort: function 51, by hand -/
theorem tm_R_empty {B : Nat} {W : World} (h : B ≤ W.heap.size) : Kd.R k29 29 (W.alloc (.cells #[] 29)) B (fun _ => True) (.slice (some ⟨W.heap.size, 0, none⟩) 0 0) ([] : List S29) :=
 ⟨fun _ _ => trivial, [], ⟨rfl, .inr ⟨W.heap.size, 0, #[], rfl, h, blk_new W _, Nat.le_refl _, Nat.zero_le _, by simp, by simp⟩⟩, Reps.none _ _⟩
theorem tm_take {w : World} {A : Option Addr} {o : List S29} {a : Nat} (h : Kd.C k29 w A o.length o) (ha : a ≤ o.length) : Kd.C k29 w A a (o.take a) := by
 have h2 := Kd.C_take h ha
 rw [show (o.take a).length = a by rw [List.length_take]; omega] at h2
 exact h2
theorem tm_drop {w : World} {A : Option Addr} {o : List S29} {a c : Nat} (h : Kd.C k29 w A o.length o) (ha : a ≤ o.length) (hc : o.length ≤ c) : Kd.C k29 w (if c = a then A else A.map (·.add (a * 4))) (o.length - a) (o.drop a) := by
 have h2 := Kd.C_drop h ha hc
 rw [show (o.drop a).length = o.length - a from List.length_drop] at h2
 exact h2
theorem tm_C_one {W : World} {q : Nat} {x : S29} (h : W.heap[q]? = some (.cells #[.int .i64 x.f0, .int .i64 x.f1, .int .u8 x.f2, .int .i64 x.f3] 29 (0, 0))) : Kd.C k29 W (some ⟨q, 0, none⟩) 1 [x] := by
 refine ⟨rfl, by decide, fun _ => ⟨_, rfl, fun j p hj => ?_⟩⟩
 have hj0 : j = 0 := by have := (List.getElem?_eq_some_iff.1 hj).1; simp at this; exact this
 subst hj0
 have hp : x = p := by simpa using hj
 subst hp
 refine ⟨tm_enc x, rfl, k29_mk W x, fun t u hu => ?_⟩
 rw [Addr.add_lit, blk_cell h, ← hu]
 unfold tm_enc
 rw [List.getElem?_toArray]
 congr 1
 omega
theorem tm_ins (x : S29) : ∀ (o : List S29) (a : Nat), a ≤ o.length → (∀ j (h : j < o.length), j < a → tm_lt o[j] x = true) → (∀ (h : a < o.length), tm_lt o[a] x = false) → Hp.ins tm_lt x o = o.take a ++ [x] ++ o.drop a
 | [], a, ha, _, _ => by
  obtain rfl : a = 0 := by simpa using ha
  rfl
 | y :: o, 0, _, _, h2 => by
  have := h2 (by simp)
  simp only [List.getElem_cons_zero] at this
  simp [Hp.ins, this]
 | y :: o, a + 1, ha, h1, h2 => by
  have hy := h1 0 (by simp) (by omega)
  simp only [List.getElem_cons_zero] at hy
  have ih := tm_ins x o a (by simpa using ha) (fun j hj hja => by have := h1 (j + 1) (by simpa using hj) (by omega); simpa using this) (fun hj => by have := h2 (by simpa using hj); simpa using this)
  simp only [Hp.ins, hy, if_true, ih, List.take_succ_cons, List.drop_succ_cons, List.cons_append]
theorem tm_ahead (a b : S29) (w : World) : Calls Try.prog 26 #[.agg #[.int .i64 a.f0, .int .i64 a.f1, .int .u8 a.f2, .int .i64 a.f3], .agg #[.int .i64 b.f0, .int .i64 b.f1, .int .u8 b.f2, .int .i64 b.f3]] w fun e w' => e = .returned (.bool (tm_lt a b)) ∧ Below w.heap.size w w' :=
 bellmanref15_Ahead.calls _ _ _ _ _ _ _ _ _ w (by
  unfold bellmanref15_Ahead.f tm_lt
  by_cases h1 : a.f0 < b.f0
  ·rw [if_pos h1]; simp [h1]
  ·rw [if_neg h1]
   by_cases h2 : a.f0 = b.f0
   ·rw [if_pos h2]; simp [h2]
   ·rw [if_neg h2]; simp [h1, h2])
def bellmanref15_Sort.f (l0 : List (S29)) : Option (List (S29)) := if l0.length < 4398046511104 then some (Hp.srt tm_lt l0) else none
set_option maxHeartbeats 8000000 in
set_option maxRecDepth 100000 in
theorem bellmanref15_Sort.calls (A0 : Option Addr) (c0 : Nat) (l0 : List (S29)) (r : List (S29)) (w : World) (hr0 : Kd.C k29 w A0 l0.length l0) (hc0 : l0.length ≤ c0) (h : bellmanref15_Sort.f l0 = some r) :
  Calls Try.prog 51 #[.slice A0 l0.length c0] w fun e w' => ∃ v0_ : Value, e = .returned (v0_) ∧ Kd.R k29 29 w' w.heap.size (fun _ => True) v0_ r ∧ Below w.heap.size w w' := by
 unfold bellmanref15_Sort.f at h
 split at h
 rotate_left
 ·cases h
 rename_i hlen
 have HRR := Lib.hid (Option.some.inj h)
 clear h
 have HR0 := Lib.hid hr0; clear hr0
 have hu := Try.underlying29
 go_enter Try.func51, Try.ntmps51
 go_wp2
 go_loopw [3, 9] (fun v3 v9 wo => ∃ (i : Nat) (o : List S29), v9 = .int .i64 i ∧ i ≤ l0.length ∧ o.length = i ∧ Hid (Kd.R k29 29 wo w.heap.size (fun _ => True) v3 o) ∧ Hid (Below w.heap.size w wo) ∧ Hid (Hp.srt tm_lt l0 = Hp.srtFrom tm_lt o (l0.drop i))) (fun _ v9 _ => l0.length - (intOf v9).toNat)
 case atStart => exact ⟨0, [], rfl, Nat.zero_le _, rfl, Lib.hid (Kd.R_nil _ _ _ _ _), Lib.hid (Below.refl _ _), Lib.hid rfl⟩
 case round =>
  obtain ⟨wo, rfl⟩ : ∃ wo : World, wo = wr := ⟨_, rfl⟩
  obtain ⟨i, o, rfl, hi, hol, HO, HB, HE⟩ := hrel
  obtain ⟨A3, c3, rfl, hcl3, hC3⟩ := Kd.R_reads HO.out
  have HC3 := Lib.hid hC3; clear hC3
  by_cases hil : i < l0.length
  rotate_left
  ·obtain rfl : i = l0.length := by omega
   have HE2 : Hid (Hp.srt tm_lt l0 = o) := Lib.hid (by rw [HE.out, List.drop_length]; rfl)
   go_wp2
   go_ret
   refine ⟨_, rfl, ?_, HB.out⟩
   rw [← HRR.out, HE2.out]
   exact HO.out
  have q0 : (0 : Int) ≤ (i : Int) := by omega
  have q1 : (i : Int) < (l0.length : Int) := by omega
  obtain ⟨ad, rfl, hx0, hx1, hx2, hx3⟩ := at_T29 HR0.out (i : Int) q0 q1
  have mv := fun {a : Addr} {v : Value} (hh : w.cell? a = some v) => (HB.out.cell (p := a) (World.block_lt_of_cell? w _ hh)).trans hh
  replace hx0 := mv hx0
  replace hx1 := mv hx1
  replace hx2 := mv hx2
  replace hx3 := mv hx3
  clear mv
  simp only [Int.toNat_natCast] at hx0 hx1 hx2 hx3
  generalize hx : rd_T29 l0 (i : Int) = x at hx0 hx1 hx2 hx3
  have HX : Hid (l0[i] = x) := Lib.hid (by
   rw [← hx]
   unfold rd_T29
   rw [Int.toNat_natCast, List.getD_eq_getElem?_getD, List.getElem?_eq_getElem hil]; rfl)
  clear hx
  go_upto_block 2 with (fail)
  have hst := below_alloc (Below.refl wo.heap.size wo) (.cells #[.int .i64 x.f0, .int .i64 x.f1, .int .u8 x.f2, .int .i64 x.f3] 29)
  have hsn := blk_new wo (.cells #[.int .i64 x.f0, .int .i64 x.f1, .int .u8 x.f2, .int .i64 x.f3] 29)
  obtain ⟨W4, hW4⟩ : ∃ W4, W4 = wo.alloc (.cells #[.int .i64 x.f0, .int .i64 x.f1, .int .u8 x.f2, .int .i64 x.f3] 29) := ⟨_, rfl⟩
  rw [← hW4] at hst hsn ⊢
  have HST := Lib.hid hst
  obtain ⟨s, hs⟩ : ∃ s, s = wo.heap.size := ⟨_, rfl⟩
  rw [← hs] at hsn ⊢
  have HSN := Lib.hid hsn
  have HSW := Lib.hid hs
  clear hst hsn hW4 hx0 hx1 hx2 hx3 hs
  have HBW := Lib.hid (Below.refl W4.heap.size W4)
  have HAL : Hid (∀ j (h : j < o.length), j < 0 → tm_lt o[j] x = true) := Lib.hid (fun j _ h => by omega)
  have hol2 : o.length < 4398046511104 := by omega
  have HOL := Lib.hid hol
  clear hol
  go_wp2
  go_loopw [6] (fun v6 wr => ∃ a : Nat, v6 = .int .i64 a ∧ a ≤ o.length ∧ Hid (Below W4.heap.size W4 wr) ∧ Hid (∀ j (h : j < o.length), j < a → tm_lt o[j] x = true)) (fun v6 _ => o.length - (intOf v6).toNat)
  case atStart => exact ⟨0, rfl, Nat.zero_le _, HBW, HAL⟩
  case round =>
   clear HBW HAL
   obtain ⟨a, rfl, hao, HBW, HAL⟩ := hrel
   have HS := Lib.hid ((HBW.out.block s (blk_lt HSN.out)).trans HSN.out)
   have hsN : s < wr.heap.size := blk_lt HS.out
   have hb1 : Below wo.heap.size wo wr := HST.out.trans (HBW.out.mono HST.out.size)
   have HC4 := Lib.hid (Kd.C_below HC3.out hb1)
   have HBR := Lib.hid (HB.out.trans (hb1.mono HB.out.size))
   have HHB := Lib.hid hb1
   clear hb1
   by_cases hal : a < o.length
   ·have p0 : (0 : Int) ≤ (a : Int) := by omega
    have p1 : (a : Int) < (o.length : Int) := by omega
    obtain ⟨ad2, rfl, hy0, hy1, hy2, hy3⟩ := at_T29 HC4.out (a : Int) p0 p1
    simp only [Int.toNat_natCast] at hy0 hy1 hy2 hy3
    generalize hy : rd_T29 o (a : Int) = y at hy0 hy1 hy2 hy3
    have HY : Hid (o[a] = y) := Lib.hid (by
     rw [← hy]
     unfold rd_T29
     rw [Int.toNat_natCast, List.getD_eq_getElem?_getD, List.getElem?_eq_getElem hal]; rfl)
    clear hy
    have c0 := (blk_cell HS.out 0)
    have c1 := (blk_cell HS.out 1)
    have c2 := (blk_cell HS.out 2)
    have c4 := (blk_cell HS.out 3)
    simp only [List.getElem?_toArray, List.getElem?_cons_zero, List.getElem?_cons_succ] at c0 c1 c2 c4
    have d3 : decide (a < o.length) = true := decide_eq_true hal
    have HAC := fun W => tm_ahead y x W
    generalize hlt : tm_lt y x = b at HAC
    have HLT := Lib.hid hlt; clear hlt
    go_wp2_with fail
    refine wp_region_still_tail 10 (by kernel_rfl) (by kernel_rfl) ?_
    simp only [List.take_succ_cons, List.take_zero, List.drop_succ_cons, List.drop_zero]
    repeat (first | still_step | (refine wpStill_step (fun K hK => ?_); rw [if_pos (by rfl)]; go_simp; refine hK _ ?_; clear hK K))
    refine wpStill_nil ?_
    clear d3
    change wpList _ _ _ _ _ wr.drew
    refine gate_guard (by rfl) ?_
    cases b with
    | true =>
     go_wp2_with (go_at_call 26; refine (HAC _).mono ?_; rintro e w5 ⟨rfl, hb5⟩)
     have HB5 : Hid (Below W4.heap.size W4 w5) := Lib.hid (below_then (below_drew1 HBW.out) HBW.out.size hb5)
     go_roundw
     case rel => exact ⟨a + 1, by go_num, by omega, HB5, Lib.hid (fun j hj hja => by
      rcases Nat.lt_or_ge j a with c | c
      ·exact HAL.out j hj c
      ·obtain rfl : j = a := by omega
       rw [HY.out]; exact HLT.out)⟩
     case measure => simp [intOf]; omega
    | false =>
     go_upto_region 8 with (go_at_call 26; refine (HAC _).mono ?_; rintro e w5 ⟨rfl, hb5⟩; have HB5 := Lib.hid hb5; clear hb5)
     obtain ⟨wz, hwz⟩ : ∃ wz, wz = w5 := ⟨_, rfl⟩
     have HBz : Below W4.heap.size W4 wz := by rw [hwz]; exact below_then (below_drew1 HBW.out) HBW.out.size HB5.out
     rw [← hwz]
     clear hwz HB5
     have HSZ := Lib.hid ((HBz.block s (blk_lt HSN.out)).trans HSN.out)
     have hsz1 : Below wo.heap.size wo wz := HST.out.trans (HBz.mono HST.out.size)
     have HCZ := Lib.hid (Kd.C_below HC3.out hsz1)
     have HBZ := Lib.hid (HB.out.trans (hsz1.mono HB.out.size))
     have HINS := Lib.hid (tm_ins x o a hao HAL.out (fun h => by rw [HY.out]; exact HLT.out))
     clear HS HC4 HBR HHB HBW HAL hsz1 HBz HAC HLT HY c0 c1 c2 c4 hy0 hy1 hy2 hy3 p0 p1
     have hsN : s < wz.heap.size := blk_lt HSZ.out
     obtain ⟨i0, hi0, hz0⟩ := info_parts info29
     have hcut1 := cut_to (P := Try.prog) 22 29 .i64 Try.underlying22 hi0 (some ad2) o.length c3 (a : Int) (by omega) (by omega) hcl3
     have hcut2 := cut_from (P := Try.prog) 22 29 .i64 Try.underlying22 hi0 4 hz0.2.1 (some ad2) o.length c3 (a : Int) (by omega) (by omega)
     simp only [Int.toNat_natCast] at hcut1 hcut2
     refine start_ (n := 13) (S := fun w' => Below wz.heap.size wz w') (ds := []) #[false, false, false, false, false, false, false, false, false, false, false, false, false] (by kernel_rfl) rfl rfl (below_drew1 (Below.refl _ _)) (fun hHeld => ?_)
     generalize wz.drew = w0_ at hHeld ⊢
     refine pure_ (i := 1) (N := some 28) (v := .slice (some ad2) o.length c3) #[false, true, false, false, false, false, false, false, false, false, false, false, false] rfl rfl (by kernel_rfl) (fun _ _ _ h => h) (Or.inl ⟨by rfl, fun w' => by go_simp⟩) rfl ?_
     refine norm_ (a' := ?_) ?_ ?_
     rotate_left
     ·simp only [Act.put, List.setIfInBounds_toArray, List.set_cons_zero, List.set_cons_succ, i64_w, i32_w]
      rfl
     refine pure_ (i := 2) (N := some 29) (v := .int .i64 (a : Int)) #[false, true, true, false, false, false, false, false, false, false, false, false, false] rfl rfl (by kernel_rfl) (fun _ _ _ h => h) (Or.inl ⟨by rfl, fun w' => by go_simp⟩) rfl ?_
     refine norm_ (a' := ?_) ?_ ?_
     rotate_left
     ·simp only [Act.put, List.setIfInBounds_toArray, List.set_cons_zero, List.set_cons_succ, i64_w, i32_w]
      rfl
     refine pure_ (i := 8) (N := some 35) (v := .slice (some ad2) o.length c3) #[false, true, true, false, false, false, false, false, true, false, false, false, false] rfl rfl (by kernel_rfl) (fun _ _ _ h => h) (Or.inl ⟨by rfl, fun w' => by go_simp⟩) rfl ?_
     refine norm_ (a' := ?_) ?_ ?_
     rotate_left
     ·simp only [Act.put, List.setIfInBounds_toArray, List.set_cons_zero, List.set_cons_succ, i64_w, i32_w]
      rfl
     refine pure_ (i := 9) (N := some 36) (v := .int .i64 (a : Int)) #[false, true, true, false, false, false, false, false, true, true, false, false, false] rfl rfl (by kernel_rfl) (fun _ _ _ h => h) (Or.inl ⟨by rfl, fun w' => by go_simp⟩) rfl ?_
     refine norm_ (a' := ?_) ?_ ?_
     rotate_left
     ·simp only [Act.put, List.setIfInBounds_toArray, List.set_cons_zero, List.set_cons_succ, i64_w, i32_w]
      rfl
     refine pure_ (i := 3) (N := some 30) (v := .slice (some ad2) a c3) #[false, true, true, true, false, false, false, false, true, true, false, false, false] rfl rfl (by kernel_rfl) (fun _ _ _ h => h) (Or.inl ⟨by rfl, fun w' => by go_simp⟩) rfl ?_
     refine norm_ (a' := ?_) ?_ ?_
     rotate_left
     ·simp only [Act.put, List.setIfInBounds_toArray, List.set_cons_zero, List.set_cons_succ, i64_w, i32_w]
      rfl
     refine pure_ (i := 10) (N := some 37) (v := .slice (if c3 = a then (some ad2) else (some ad2).map (·.add (a * 4))) (o.length - a) (c3 - a)) #[false, true, true, true, false, false, false, false, true, true, true, false, false] rfl rfl (by kernel_rfl) (fun _ _ _ h => h) (Or.inl ⟨by rfl, fun w' => by go_simp⟩) rfl ?_
     refine norm_ (a' := ?_) ?_ ?_
     rotate_left
     ·simp only [Act.put, List.setIfInBounds_toArray, List.set_cons_zero, List.set_cons_succ, i64_w, i32_w]
      rfl
     refine take_ (i := 5) (N := some 32) (v := (.agg #[.int .i64 x.f0, .int .i64 x.f1, .int .u8 x.f2, .int .i64 x.f3])) #[false, true, true, true, false, true, false, false, true, true, true, false, false] rfl rfl (by kernel_rfl) (fun _ _ _ h => h) (Or.inl ⟨by rfl, fun w' hS => by have c0 := (blk_cell ((hS.block s hsN).trans HSZ.out) 0); have c1 := (blk_cell ((hS.block s hsN).trans HSZ.out) 1); have c2 := (blk_cell ((hS.block s hsN).trans HSZ.out) 2); have c3_ := (blk_cell ((hS.block s hsN).trans HSZ.out) 3); simp only [List.getElem?_toArray, List.getElem?_cons_zero, List.getElem?_cons_succ] at c0 c1 c2 c3_; go_simp⟩) hHeld rfl ?_
     refine norm_ (a' := ?_) ?_ ?_
     rotate_left
     ·simp only [Act.put, List.setIfInBounds_toArray, List.set_cons_zero, List.set_cons_succ, i64_w, i32_w]
      rfl
     refine two_ (i := 0) (j := 6) (Ni := some 27) (Nj := some 33) #[true, true, true, true, false, true, false, false, true, true, true, false, false] #[false, true, true, true, false, true, true, false, true, true, true, false, false] rfl rfl rfl rfl (by kernel_rfl) (by decide) (by decide) (fun K hK => ?_) (fun K hK => ?_)
     ·-- the empty one first
      refine event_step (w1 := w0_.alloc (.cells #[] 29)) (v := .slice (some ⟨w0_.heap.size, 0, none⟩) 0 0) rfl (by go_simp) ?_
      have hb_e0 := below_then hHeld hHeld.size (below_alloc (Below.refl w0_.heap.size w0_) (.cells #[] 29))
      have he_e0 := tm_R_empty (B := wz.heap.size) (W := w0_) hHeld.size
      refine hK.out _ _ hb_e0 (fun hHeld_e0 => ?_)
      clear hK K
      refine norm_ (a' := ?_) ?_ ?_
      rotate_left
      ·simp only [Act.put, List.setIfInBounds_toArray, List.set_cons_zero, List.set_cons_succ, i64_w, i32_w]
       rfl
      have hl_e0 : w0_.heap.size < (w0_.alloc (.cells #[] 29)).heap.size := by simp
      have hal_e0 := below_alloc (Below.refl w0_.heap.size w0_) (.cells #[] 29)
      generalize w0_.alloc (.cells #[] 29) = we0 at hb_e0 he_e0 hHeld_e0 hl_e0 hal_e0 ⊢
      refine two_ (i := 4) (j := 6) (Ni := some 31) (Nj := some 33) #[true, true, true, true, true, true, false, false, true, true, true, false, false] #[true, true, true, true, false, true, true, false, true, true, true, false, false] rfl rfl rfl rfl (by kernel_rfl) (by decide) (by decide) (fun K hK => ?_) (fun K hK => ?_)
      ·-- 4, then 6
       refine Kd.R_append_rows_step k29 (w0 := wz) wz.heap.size rfl (.tmp 27) (.tmp 30) 22 29 (.agg #[(.int .i64 0), (.int .i64 0), (.int .u8 0), (.int .i64 0)]) 32 rfl Try.underlying22 info29 rfl (by decide) (by omega) _ ([] : List S29) (o.take a) _ _ _ (fun _ => True) (fun _ => False) rfl rfl he_e0 (tm_take (Kd.C_below HCZ.out hb_e0) hao) (fun x cs h => by rw [k29_open h]; exact k29_mkM _ _ _ x) (fun _ h => h.elim) (fun _ _ => trivial) hb_e0 hb_e0.size (by first | (simp; done) | (simp; omega)) ?_
       intro v_a4 wa4 ho_a4 hb_a4 hg_a4 hat_a4
       refine hK.out _ _ hb_a4 (fun hHeld_a4 => ?_)
       clear hK K
       refine norm_ (a' := ?_) ?_ ?_
       rotate_left
       ·simp only [Act.put, List.setIfInBounds_toArray, List.set_cons_zero, List.set_cons_succ, i64_w, i32_w]
        rfl
       refine one_ (i := 6) (N := some 33) #[true, true, true, true, true, true, true, false, true, true, true, false, false] rfl rfl (by kernel_rfl) (by decide) (fun K hK => ?_)
       refine event_step (w1 := wa4.alloc (.cells #[.int .i64 x.f0, .int .i64 x.f1, .int .u8 x.f2, .int .i64 x.f3] 29)) (v := .slice (some ⟨wa4.heap.size, 0, none⟩) 1 1) rfl (by go_simp) ?_
       have hb_b6 := below_then hb_a4 hb_a4.size (below_alloc (Below.refl wa4.heap.size wa4) (.cells #[.int .i64 x.f0, .int .i64 x.f1, .int .u8 x.f2, .int .i64 x.f3] 29))
       have hq_b6 := blk_new wa4 (.cells #[.int .i64 x.f0, .int .i64 x.f1, .int .u8 x.f2, .int .i64 x.f3] 29)
       have hst_b6 : Below wa4.heap.size wa4 (wa4.alloc (.cells #[.int .i64 x.f0, .int .i64 x.f1, .int .u8 x.f2, .int .i64 x.f3] 29)) := below_alloc (Below.refl _ _) _
       refine hK.out _ _ hb_b6 (fun hHeld_b6 => ?_)
       clear hK K
       refine norm_ (a' := ?_) ?_ ?_
       rotate_left
       ·simp only [Act.put, List.setIfInBounds_toArray, List.set_cons_zero, List.set_cons_succ, i64_w, i32_w]
        rfl
       generalize wa4.alloc (.cells #[.int .i64 x.f0, .int .i64 x.f1, .int .u8 x.f2, .int .i64 x.f3] 29) = wb6 at hb_b6 hq_b6 hst_b6 hHeld_b6 ⊢
       have hql := blk_lt hq_b6
       refine one_ (i := 7) (N := some 34) #[true, true, true, true, true, true, true, true, true, true, true, false, false] rfl rfl (by kernel_rfl) (by decide) (fun K hK => ?_)
       refine Kd.R_append_rows_step k29 (w0 := wz) wz.heap.size rfl (.tmp 31) (.tmp 33) 22 29 (.agg #[(.int .i64 0), (.int .i64 0), (.int .u8 0), (.int .i64 0)]) 32 rfl Try.underlying22 info29 rfl (by decide) (by omega) v_a4 (o.take a) [x] _ _ _ (fun _ => True) (fun _ => False) rfl rfl (Kd.R_below ho_a4 hst_b6) (tm_C_one hq_b6) (fun x cs h => by rw [k29_open h]; exact k29_mkM _ _ _ x) (fun _ h => h.elim) (fun _ _ => trivial) hb_b6 hb_b6.size (by first | (simp; done) | (simp; omega)) ?_
       intro v_c7 wc7 ho_c7 hb_c7 hg_c7 hat_c7
       refine hK.out _ _ hb_c7 (fun hHeld_c7 => ?_)
       clear hK K
       refine norm_ (a' := ?_) ?_ ?_
       rotate_left
       ·simp only [Act.put, List.setIfInBounds_toArray, List.set_cons_zero, List.set_cons_succ, i64_w, i32_w]
        rfl
       refine one_ (i := 11) (N := some 38) #[true, true, true, true, true, true, true, true, true, true, true, true, false] rfl rfl (by kernel_rfl) (by decide) (fun K hK => ?_)
       refine Kd.R_append_rows_step k29 (w0 := wz) wz.heap.size rfl (.tmp 34) (.tmp 37) 22 29 (.agg #[(.int .i64 0), (.int .i64 0), (.int .u8 0), (.int .i64 0)]) 32 rfl Try.underlying22 info29 rfl (by decide) (by omega) v_c7 (o.take a ++ [x]) (o.drop a) _ _ _ (fun _ => True) (fun _ => False) rfl rfl ho_c7 (tm_drop (Kd.C_below HCZ.out hb_c7) hao hcl3) (fun x cs h => by rw [k29_open h]; exact k29_mkM _ _ _ x) (fun _ h => h.elim) (fun _ _ => trivial) hb_c7 hb_c7.size (by first | (simp; done) | (simp; omega)) ?_
       intro v_c8 wc8 ho_c8 hb_c8 hg_c8 hat_c8
       refine hK.out _ _ hb_c8 (fun hHeld_c8 => ?_)
       clear hK K
       refine norm_ (a' := ?_) ?_ ?_
       rotate_left
       ·simp only [Act.put, List.setIfInBounds_toArray, List.set_cons_zero, List.set_cons_succ, i64_w, i32_w]
        rfl
       refine pure_ (i := 12) (N := some 3) (v := v_c8) #[true, true, true, true, true, true, true, true, true, true, true, true, true] rfl rfl (by kernel_rfl) (fun _ _ _ h => h) (Or.inl ⟨by rfl, fun w' => by go_simp⟩) rfl ?_
       refine norm_ (a' := ?_) ?_ ?_
       rotate_left
       ·simp only [Act.put, List.setIfInBounds_toArray, List.set_cons_zero, List.set_cons_succ, i64_w, i32_w]
        rfl
       refine done_ (by kernel_rfl) ?_
       go_wp2
       go_roundw
       case rel =>
        have hal2 : (o.take a ++ [x] ++ o.drop a).length = o.length + 1 := by first | (simp; done) | (simp; omega)
        exact ⟨i + 1, Hp.ins tm_lt x o, by go_num, by omega, by rw [HINS.out, hal2, HOL.out], Lib.hid (by rw [HINS.out]; exact Kd.R_lower ho_c8 HBZ.out.size), Lib.hid (below_then HBZ.out HBZ.out.size hb_c8), Lib.hid (by rw [HE.out, List.drop_eq_getElem_cons hil, HX.out]; rfl)⟩
       case measure => simp [intOf]; omega
      ·-- 6, then 4
       refine event_step (w1 := we0.alloc (.cells #[.int .i64 x.f0, .int .i64 x.f1, .int .u8 x.f2, .int .i64 x.f3] 29)) (v := .slice (some ⟨we0.heap.size, 0, none⟩) 1 1) rfl (by go_simp) ?_
       have hb_b6 := below_then hb_e0 hb_e0.size (below_alloc (Below.refl we0.heap.size we0) (.cells #[.int .i64 x.f0, .int .i64 x.f1, .int .u8 x.f2, .int .i64 x.f3] 29))
       have hq_b6 := blk_new we0 (.cells #[.int .i64 x.f0, .int .i64 x.f1, .int .u8 x.f2, .int .i64 x.f3] 29)
       have hst_b6 : Below we0.heap.size we0 (we0.alloc (.cells #[.int .i64 x.f0, .int .i64 x.f1, .int .u8 x.f2, .int .i64 x.f3] 29)) := below_alloc (Below.refl _ _) _
       refine hK.out _ _ hb_b6 (fun hHeld_b6 => ?_)
       clear hK K
       refine norm_ (a' := ?_) ?_ ?_
       rotate_left
       ·simp only [Act.put, List.setIfInBounds_toArray, List.set_cons_zero, List.set_cons_succ, i64_w, i32_w]
        rfl
       generalize we0.alloc (.cells #[.int .i64 x.f0, .int .i64 x.f1, .int .u8 x.f2, .int .i64 x.f3] 29) = wb6 at hb_b6 hq_b6 hst_b6 hHeld_b6 ⊢
       have hql := blk_lt hq_b6
       refine one_ (i := 4) (N := some 31) #[true, true, true, true, true, true, true, false, true, true, true, false, false] rfl rfl (by kernel_rfl) (by decide) (fun K hK => ?_)
       refine Kd.R_append_rows_step k29 (w0 := wz) wz.heap.size rfl (.tmp 27) (.tmp 30) 22 29 (.agg #[(.int .i64 0), (.int .i64 0), (.int .u8 0), (.int .i64 0)]) 32 rfl Try.underlying22 info29 rfl (by decide) (by omega) _ ([] : List S29) (o.take a) _ _ _ (fun _ => True) (fun _ => False) rfl rfl (Kd.R_below he_e0 hst_b6) (tm_take (Kd.C_below HCZ.out hb_b6) hao) (fun x cs h => by rw [k29_open h]; exact k29_mkM _ _ _ x) (fun _ h => h.elim) (fun _ _ => trivial) hb_b6 hb_b6.size (by first | (simp; done) | (simp; omega)) ?_
       intro v_a4 wa4 ho_a4 hb_a4 hg_a4 hat_a4
       refine hK.out _ _ hb_a4 (fun hHeld_a4 => ?_)
       clear hK K
       refine norm_ (a' := ?_) ?_ ?_
       rotate_left
       ·simp only [Act.put, List.setIfInBounds_toArray, List.set_cons_zero, List.set_cons_succ, i64_w, i32_w]
        rfl
       have hq_k := (hg_a4.block we0.heap.size hql (fun e_ => by have e2 := Option.some.inj e_; change we0.heap.size = w0_.heap.size at e2; omega)).trans hq_b6
       refine one_ (i := 7) (N := some 34) #[true, true, true, true, true, true, true, true, true, true, true, false, false] rfl rfl (by kernel_rfl) (by decide) (fun K hK => ?_)
       refine Kd.R_append_rows_step k29 (w0 := wz) wz.heap.size rfl (.tmp 31) (.tmp 33) 22 29 (.agg #[(.int .i64 0), (.int .i64 0), (.int .u8 0), (.int .i64 0)]) 32 rfl Try.underlying22 info29 rfl (by decide) (by omega) v_a4 (o.take a) [x] _ _ _ (fun _ => True) (fun _ => False) rfl rfl ho_a4 (tm_C_one hq_k) (fun x cs h => by rw [k29_open h]; exact k29_mkM _ _ _ x) (fun _ h => h.elim) (fun _ _ => trivial) hb_a4 hb_a4.size (by first | (simp; done) | (simp; omega)) ?_
       intro v_c7 wc7 ho_c7 hb_c7 hg_c7 hat_c7
       refine hK.out _ _ hb_c7 (fun hHeld_c7 => ?_)
       clear hK K
       refine norm_ (a' := ?_) ?_ ?_
       rotate_left
       ·simp only [Act.put, List.setIfInBounds_toArray, List.set_cons_zero, List.set_cons_succ, i64_w, i32_w]
        rfl
       refine one_ (i := 11) (N := some 38) #[true, true, true, true, true, true, true, true, true, true, true, true, false] rfl rfl (by kernel_rfl) (by decide) (fun K hK => ?_)
       refine Kd.R_append_rows_step k29 (w0 := wz) wz.heap.size rfl (.tmp 34) (.tmp 37) 22 29 (.agg #[(.int .i64 0), (.int .i64 0), (.int .u8 0), (.int .i64 0)]) 32 rfl Try.underlying22 info29 rfl (by decide) (by omega) v_c7 (o.take a ++ [x]) (o.drop a) _ _ _ (fun _ => True) (fun _ => False) rfl rfl ho_c7 (tm_drop (Kd.C_below HCZ.out hb_c7) hao hcl3) (fun x cs h => by rw [k29_open h]; exact k29_mkM _ _ _ x) (fun _ h => h.elim) (fun _ _ => trivial) hb_c7 hb_c7.size (by first | (simp; done) | (simp; omega)) ?_
       intro v_c8 wc8 ho_c8 hb_c8 hg_c8 hat_c8
       refine hK.out _ _ hb_c8 (fun hHeld_c8 => ?_)
       clear hK K
       refine norm_ (a' := ?_) ?_ ?_
       rotate_left
       ·simp only [Act.put, List.setIfInBounds_toArray, List.set_cons_zero, List.set_cons_succ, i64_w, i32_w]
        rfl
       refine pure_ (i := 12) (N := some 3) (v := v_c8) #[true, true, true, true, true, true, true, true, true, true, true, true, true] rfl rfl (by kernel_rfl) (fun _ _ _ h => h) (Or.inl ⟨by rfl, fun w' => by go_simp⟩) rfl ?_
       refine norm_ (a' := ?_) ?_ ?_
       rotate_left
       ·simp only [Act.put, List.setIfInBounds_toArray, List.set_cons_zero, List.set_cons_succ, i64_w, i32_w]
        rfl
       refine done_ (by kernel_rfl) ?_
       go_wp2
       go_roundw
       case rel =>
        have hal2 : (o.take a ++ [x] ++ o.drop a).length = o.length + 1 := by first | (simp; done) | (simp; omega)
        exact ⟨i + 1, Hp.ins tm_lt x o, by go_num, by omega, by rw [HINS.out, hal2, HOL.out], Lib.hid (by rw [HINS.out]; exact Kd.R_lower ho_c8 HBZ.out.size), Lib.hid (below_then HBZ.out HBZ.out.size hb_c8), Lib.hid (by rw [HE.out, List.drop_eq_getElem_cons hil, HX.out]; rfl)⟩
       case measure => simp [intOf]; omega
     ·-- 6 first
      refine event_step (w1 := w0_.alloc (.cells #[.int .i64 x.f0, .int .i64 x.f1, .int .u8 x.f2, .int .i64 x.f3] 29)) (v := .slice (some ⟨w0_.heap.size, 0, none⟩) 1 1) rfl (by go_simp) ?_
      have hb_b6 := below_then hHeld hHeld.size (below_alloc (Below.refl w0_.heap.size w0_) (.cells #[.int .i64 x.f0, .int .i64 x.f1, .int .u8 x.f2, .int .i64 x.f3] 29))
      have hq_b6 := blk_new w0_ (.cells #[.int .i64 x.f0, .int .i64 x.f1, .int .u8 x.f2, .int .i64 x.f3] 29)
      have hst_b6 : Below w0_.heap.size w0_ (w0_.alloc (.cells #[.int .i64 x.f0, .int .i64 x.f1, .int .u8 x.f2, .int .i64 x.f3] 29)) := below_alloc (Below.refl _ _) _
      refine hK.out _ _ hb_b6 (fun hHeld_b6 => ?_)
      clear hK K
      refine norm_ (a' := ?_) ?_ ?_
      rotate_left
      ·simp only [Act.put, List.setIfInBounds_toArray, List.set_cons_zero, List.set_cons_succ, i64_w, i32_w]
       rfl
      generalize w0_.alloc (.cells #[.int .i64 x.f0, .int .i64 x.f1, .int .u8 x.f2, .int .i64 x.f3] 29) = wb6 at hb_b6 hq_b6 hst_b6 hHeld_b6 ⊢
      have hql := blk_lt hq_b6
      refine one_ (i := 0) (N := some 27) #[true, true, true, true, false, true, true, false, true, true, true, false, false] rfl rfl (by kernel_rfl) (by decide) (fun K hK => ?_)
      refine event_step (w1 := wb6.alloc (.cells #[] 29)) (v := .slice (some ⟨wb6.heap.size, 0, none⟩) 0 0) rfl (by go_simp) ?_
      have hb_e0 := below_then hb_b6 hb_b6.size (below_alloc (Below.refl wb6.heap.size wb6) (.cells #[] 29))
      have he_e0 := tm_R_empty (B := wz.heap.size) (W := wb6) hb_b6.size
      refine hK.out _ _ hb_e0 (fun hHeld_e0 => ?_)
      clear hK K
      refine norm_ (a' := ?_) ?_ ?_
      rotate_left
      ·simp only [Act.put, List.setIfInBounds_toArray, List.set_cons_zero, List.set_cons_succ, i64_w, i32_w]
       rfl
      have hl_e0 : wb6.heap.size < (wb6.alloc (.cells #[] 29)).heap.size := by simp
      have hal_e0 := below_alloc (Below.refl wb6.heap.size wb6) (.cells #[] 29)
      generalize wb6.alloc (.cells #[] 29) = we0 at hb_e0 he_e0 hHeld_e0 hl_e0 hal_e0 ⊢
      refine one_ (i := 4) (N := some 31) #[true, true, true, true, true, true, true, false, true, true, true, false, false] rfl rfl (by kernel_rfl) (by decide) (fun K hK => ?_)
      refine Kd.R_append_rows_step k29 (w0 := wz) wz.heap.size rfl (.tmp 27) (.tmp 30) 22 29 (.agg #[(.int .i64 0), (.int .i64 0), (.int .u8 0), (.int .i64 0)]) 32 rfl Try.underlying22 info29 rfl (by decide) (by omega) _ ([] : List S29) (o.take a) _ _ _ (fun _ => True) (fun _ => False) rfl rfl he_e0 (tm_take (Kd.C_below HCZ.out hb_e0) hao) (fun x cs h => by rw [k29_open h]; exact k29_mkM _ _ _ x) (fun _ h => h.elim) (fun _ _ => trivial) hb_e0 hb_e0.size (by first | (simp; done) | (simp; omega)) ?_
      intro v_a4 wa4 ho_a4 hb_a4 hg_a4 hat_a4
      refine hK.out _ _ hb_a4 (fun hHeld_a4 => ?_)
      clear hK K
      refine norm_ (a' := ?_) ?_ ?_
      rotate_left
      ·simp only [Act.put, List.setIfInBounds_toArray, List.set_cons_zero, List.set_cons_succ, i64_w, i32_w]
       rfl
      have hq_j := (hal_e0.block w0_.heap.size hql).trans hq_b6
      have hq_k := (hg_a4.block w0_.heap.size (blk_lt hq_j) (fun e_ => by have e2 := Option.some.inj e_; change w0_.heap.size = wb6.heap.size at e2; omega)).trans hq_j
      refine one_ (i := 7) (N := some 34) #[true, true, true, true, true, true, true, true, true, true, true, false, false] rfl rfl (by kernel_rfl) (by decide) (fun K hK => ?_)
      refine Kd.R_append_rows_step k29 (w0 := wz) wz.heap.size rfl (.tmp 31) (.tmp 33) 22 29 (.agg #[(.int .i64 0), (.int .i64 0), (.int .u8 0), (.int .i64 0)]) 32 rfl Try.underlying22 info29 rfl (by decide) (by omega) v_a4 (o.take a) [x] _ _ _ (fun _ => True) (fun _ => False) rfl rfl ho_a4 (tm_C_one hq_k) (fun x cs h => by rw [k29_open h]; exact k29_mkM _ _ _ x) (fun _ h => h.elim) (fun _ _ => trivial) hb_a4 hb_a4.size (by first | (simp; done) | (simp; omega)) ?_
      intro v_c7 wc7 ho_c7 hb_c7 hg_c7 hat_c7
      refine hK.out _ _ hb_c7 (fun hHeld_c7 => ?_)
      clear hK K
      refine norm_ (a' := ?_) ?_ ?_
      rotate_left
      ·simp only [Act.put, List.setIfInBounds_toArray, List.set_cons_zero, List.set_cons_succ, i64_w, i32_w]
       rfl
      refine one_ (i := 11) (N := some 38) #[true, true, true, true, true, true, true, true, true, true, true, true, false] rfl rfl (by kernel_rfl) (by decide) (fun K hK => ?_)
      refine Kd.R_append_rows_step k29 (w0 := wz) wz.heap.size rfl (.tmp 34) (.tmp 37) 22 29 (.agg #[(.int .i64 0), (.int .i64 0), (.int .u8 0), (.int .i64 0)]) 32 rfl Try.underlying22 info29 rfl (by decide) (by omega) v_c7 (o.take a ++ [x]) (o.drop a) _ _ _ (fun _ => True) (fun _ => False) rfl rfl ho_c7 (tm_drop (Kd.C_below HCZ.out hb_c7) hao hcl3) (fun x cs h => by rw [k29_open h]; exact k29_mkM _ _ _ x) (fun _ h => h.elim) (fun _ _ => trivial) hb_c7 hb_c7.size (by first | (simp; done) | (simp; omega)) ?_
      intro v_c8 wc8 ho_c8 hb_c8 hg_c8 hat_c8
      refine hK.out _ _ hb_c8 (fun hHeld_c8 => ?_)
      clear hK K
      refine norm_ (a' := ?_) ?_ ?_
      rotate_left
      ·simp only [Act.put, List.setIfInBounds_toArray, List.set_cons_zero, List.set_cons_succ, i64_w, i32_w]
       rfl
      refine pure_ (i := 12) (N := some 3) (v := v_c8) #[true, true, true, true, true, true, true, true, true, true, true, true, true] rfl rfl (by kernel_rfl) (fun _ _ _ h => h) (Or.inl ⟨by rfl, fun w' => by go_simp⟩) rfl ?_
      refine norm_ (a' := ?_) ?_ ?_
      rotate_left
      ·simp only [Act.put, List.setIfInBounds_toArray, List.set_cons_zero, List.set_cons_succ, i64_w, i32_w]
       rfl
      refine done_ (by kernel_rfl) ?_
      go_wp2
      go_roundw
      case rel =>
       have hal2 : (o.take a ++ [x] ++ o.drop a).length = o.length + 1 := by first | (simp; done) | (simp; omega)
       exact ⟨i + 1, Hp.ins tm_lt x o, by go_num, by omega, by rw [HINS.out, hal2, HOL.out], Lib.hid (by rw [HINS.out]; exact Kd.R_lower ho_c8 HBZ.out.size), Lib.hid (below_then HBZ.out HBZ.out.size hb_c8), Lib.hid (by rw [HE.out, List.drop_eq_getElem_cons hil, HX.out]; rfl)⟩
      case measure => simp [intOf]; omega
   ·obtain rfl : a = o.length := by omega
    have d3 : decide (o.length < o.length) = false := decide_eq_false (by omega)
    go_wp2_with fail
    go_quiet (fail)
    go_upto_region 8 with (fail)
    obtain ⟨wz, hwz⟩ : ∃ wz, wz = wr.drewN nq := ⟨_, rfl⟩
    have HBz : Below W4.heap.size W4 wz := by rw [hwz]; exact pw_below_drewN HBW.out _
    rw [← hwz]
    clear hwz d3
    have hfr : ∀ (h : o.length < o.length), tm_lt o[o.length] x = false := fun h => by omega
    have HSZ := Lib.hid ((HBz.block s (blk_lt HSN.out)).trans HSN.out)
    have hsz1 : Below wo.heap.size wo wz := HST.out.trans (HBz.mono HST.out.size)
    have HCZ := Lib.hid (Kd.C_below HC3.out hsz1)
    have HBZ := Lib.hid (HB.out.trans (hsz1.mono HB.out.size))
    have HINS := Lib.hid (tm_ins x o o.length (Nat.le_refl _) HAL.out hfr)
    clear HS HC4 HBR HHB HBW HAL hsz1 HBz hfr
    have hsN : s < wz.heap.size := blk_lt HSZ.out
    obtain ⟨i0, hi0, hz0⟩ := info_parts info29
    have hcut1 := cut_to (P := Try.prog) 22 29 .i64 Try.underlying22 hi0 A3 o.length c3 (o.length : Int) (by omega) (by omega) hcl3
    have hcut2 := cut_from (P := Try.prog) 22 29 .i64 Try.underlying22 hi0 4 hz0.2.1 A3 o.length c3 (o.length : Int) (by omega) (by omega)
    simp only [Int.toNat_natCast] at hcut1 hcut2
    refine start_ (n := 13) (S := fun w' => Below wz.heap.size wz w') (ds := []) #[false, false, false, false, false, false, false, false, false, false, false, false, false] (by kernel_rfl) rfl rfl (below_drew1 (Below.refl _ _)) (fun hHeld => ?_)
    generalize wz.drew = w0_ at hHeld ⊢
    refine pure_ (i := 1) (N := some 28) (v := .slice A3 o.length c3) #[false, true, false, false, false, false, false, false, false, false, false, false, false] rfl rfl (by kernel_rfl) (fun _ _ _ h => h) (Or.inl ⟨by rfl, fun w' => by go_simp⟩) rfl ?_
    refine norm_ (a' := ?_) ?_ ?_
    rotate_left
    ·simp only [Act.put, List.setIfInBounds_toArray, List.set_cons_zero, List.set_cons_succ, i64_w, i32_w]
     rfl
    refine pure_ (i := 2) (N := some 29) (v := .int .i64 (o.length : Int)) #[false, true, true, false, false, false, false, false, false, false, false, false, false] rfl rfl (by kernel_rfl) (fun _ _ _ h => h) (Or.inl ⟨by rfl, fun w' => by go_simp⟩) rfl ?_
    refine norm_ (a' := ?_) ?_ ?_
    rotate_left
    ·simp only [Act.put, List.setIfInBounds_toArray, List.set_cons_zero, List.set_cons_succ, i64_w, i32_w]
     rfl
    refine pure_ (i := 8) (N := some 35) (v := .slice A3 o.length c3) #[false, true, true, false, false, false, false, false, true, false, false, false, false] rfl rfl (by kernel_rfl) (fun _ _ _ h => h) (Or.inl ⟨by rfl, fun w' => by go_simp⟩) rfl ?_
    refine norm_ (a' := ?_) ?_ ?_
    rotate_left
    ·simp only [Act.put, List.setIfInBounds_toArray, List.set_cons_zero, List.set_cons_succ, i64_w, i32_w]
     rfl
    refine pure_ (i := 9) (N := some 36) (v := .int .i64 (o.length : Int)) #[false, true, true, false, false, false, false, false, true, true, false, false, false] rfl rfl (by kernel_rfl) (fun _ _ _ h => h) (Or.inl ⟨by rfl, fun w' => by go_simp⟩) rfl ?_
    refine norm_ (a' := ?_) ?_ ?_
    rotate_left
    ·simp only [Act.put, List.setIfInBounds_toArray, List.set_cons_zero, List.set_cons_succ, i64_w, i32_w]
     rfl
    refine pure_ (i := 3) (N := some 30) (v := .slice A3 o.length c3) #[false, true, true, true, false, false, false, false, true, true, false, false, false] rfl rfl (by kernel_rfl) (fun _ _ _ h => h) (Or.inl ⟨by rfl, fun w' => by go_simp⟩) rfl ?_
    refine norm_ (a' := ?_) ?_ ?_
    rotate_left
    ·simp only [Act.put, List.setIfInBounds_toArray, List.set_cons_zero, List.set_cons_succ, i64_w, i32_w]
     rfl
    refine pure_ (i := 10) (N := some 37) (v := .slice (if c3 = o.length then A3 else A3.map (·.add (o.length * 4))) (o.length - o.length) (c3 - o.length)) #[false, true, true, true, false, false, false, false, true, true, true, false, false] rfl rfl (by kernel_rfl) (fun _ _ _ h => h) (Or.inl ⟨by rfl, fun w' => by go_simp⟩) rfl ?_
    refine norm_ (a' := ?_) ?_ ?_
    rotate_left
    ·simp only [Act.put, List.setIfInBounds_toArray, List.set_cons_zero, List.set_cons_succ, i64_w, i32_w]
     rfl
    refine take_ (i := 5) (N := some 32) (v := (.agg #[.int .i64 x.f0, .int .i64 x.f1, .int .u8 x.f2, .int .i64 x.f3])) #[false, true, true, true, false, true, false, false, true, true, true, false, false] rfl rfl (by kernel_rfl) (fun _ _ _ h => h) (Or.inl ⟨by rfl, fun w' hS => by have c0 := (blk_cell ((hS.block s hsN).trans HSZ.out) 0); have c1 := (blk_cell ((hS.block s hsN).trans HSZ.out) 1); have c2 := (blk_cell ((hS.block s hsN).trans HSZ.out) 2); have c3_ := (blk_cell ((hS.block s hsN).trans HSZ.out) 3); simp only [List.getElem?_toArray, List.getElem?_cons_zero, List.getElem?_cons_succ] at c0 c1 c2 c3_; go_simp⟩) hHeld rfl ?_
    refine norm_ (a' := ?_) ?_ ?_
    rotate_left
    ·simp only [Act.put, List.setIfInBounds_toArray, List.set_cons_zero, List.set_cons_succ, i64_w, i32_w]
     rfl
    refine two_ (i := 0) (j := 6) (Ni := some 27) (Nj := some 33) #[true, true, true, true, false, true, false, false, true, true, true, false, false] #[false, true, true, true, false, true, true, false, true, true, true, false, false] rfl rfl rfl rfl (by kernel_rfl) (by decide) (by decide) (fun K hK => ?_) (fun K hK => ?_)
    ·-- the empty one first
     refine event_step (w1 := w0_.alloc (.cells #[] 29)) (v := .slice (some ⟨w0_.heap.size, 0, none⟩) 0 0) rfl (by go_simp) ?_
     have hb_e0 := below_then hHeld hHeld.size (below_alloc (Below.refl w0_.heap.size w0_) (.cells #[] 29))
     have he_e0 := tm_R_empty (B := wz.heap.size) (W := w0_) hHeld.size
     refine hK.out _ _ hb_e0 (fun hHeld_e0 => ?_)
     clear hK K
     refine norm_ (a' := ?_) ?_ ?_
     rotate_left
     ·simp only [Act.put, List.setIfInBounds_toArray, List.set_cons_zero, List.set_cons_succ, i64_w, i32_w]
      rfl
     have hl_e0 : w0_.heap.size < (w0_.alloc (.cells #[] 29)).heap.size := by simp
     have hal_e0 := below_alloc (Below.refl w0_.heap.size w0_) (.cells #[] 29)
     generalize w0_.alloc (.cells #[] 29) = we0 at hb_e0 he_e0 hHeld_e0 hl_e0 hal_e0 ⊢
     refine two_ (i := 4) (j := 6) (Ni := some 31) (Nj := some 33) #[true, true, true, true, true, true, false, false, true, true, true, false, false] #[true, true, true, true, false, true, true, false, true, true, true, false, false] rfl rfl rfl rfl (by kernel_rfl) (by decide) (by decide) (fun K hK => ?_) (fun K hK => ?_)
     ·-- 4, then 6
      refine Kd.R_append_rows_step k29 (w0 := wz) wz.heap.size rfl (.tmp 27) (.tmp 30) 22 29 (.agg #[(.int .i64 0), (.int .i64 0), (.int .u8 0), (.int .i64 0)]) 32 rfl Try.underlying22 info29 rfl (by decide) (by omega) _ ([] : List S29) (o.take o.length) _ _ _ (fun _ => True) (fun _ => False) rfl rfl he_e0 (tm_take (Kd.C_below HCZ.out hb_e0) hao) (fun x cs h => by rw [k29_open h]; exact k29_mkM _ _ _ x) (fun _ h => h.elim) (fun _ _ => trivial) hb_e0 hb_e0.size (by first | (simp; done) | (simp; omega)) ?_
      intro v_a4 wa4 ho_a4 hb_a4 hg_a4 hat_a4
      refine hK.out _ _ hb_a4 (fun hHeld_a4 => ?_)
      clear hK K
      refine norm_ (a' := ?_) ?_ ?_
      rotate_left
      ·simp only [Act.put, List.setIfInBounds_toArray, List.set_cons_zero, List.set_cons_succ, i64_w, i32_w]
       rfl
      refine one_ (i := 6) (N := some 33) #[true, true, true, true, true, true, true, false, true, true, true, false, false] rfl rfl (by kernel_rfl) (by decide) (fun K hK => ?_)
      refine event_step (w1 := wa4.alloc (.cells #[.int .i64 x.f0, .int .i64 x.f1, .int .u8 x.f2, .int .i64 x.f3] 29)) (v := .slice (some ⟨wa4.heap.size, 0, none⟩) 1 1) rfl (by go_simp) ?_
      have hb_b6 := below_then hb_a4 hb_a4.size (below_alloc (Below.refl wa4.heap.size wa4) (.cells #[.int .i64 x.f0, .int .i64 x.f1, .int .u8 x.f2, .int .i64 x.f3] 29))
      have hq_b6 := blk_new wa4 (.cells #[.int .i64 x.f0, .int .i64 x.f1, .int .u8 x.f2, .int .i64 x.f3] 29)
      have hst_b6 : Below wa4.heap.size wa4 (wa4.alloc (.cells #[.int .i64 x.f0, .int .i64 x.f1, .int .u8 x.f2, .int .i64 x.f3] 29)) := below_alloc (Below.refl _ _) _
      refine hK.out _ _ hb_b6 (fun hHeld_b6 => ?_)
      clear hK K
      refine norm_ (a' := ?_) ?_ ?_
      rotate_left
      ·simp only [Act.put, List.setIfInBounds_toArray, List.set_cons_zero, List.set_cons_succ, i64_w, i32_w]
       rfl
      generalize wa4.alloc (.cells #[.int .i64 x.f0, .int .i64 x.f1, .int .u8 x.f2, .int .i64 x.f3] 29) = wb6 at hb_b6 hq_b6 hst_b6 hHeld_b6 ⊢
      have hql := blk_lt hq_b6
      refine one_ (i := 7) (N := some 34) #[true, true, true, true, true, true, true, true, true, true, true, false, false] rfl rfl (by kernel_rfl) (by decide) (fun K hK => ?_)
      refine Kd.R_append_rows_step k29 (w0 := wz) wz.heap.size rfl (.tmp 31) (.tmp 33) 22 29 (.agg #[(.int .i64 0), (.int .i64 0), (.int .u8 0), (.int .i64 0)]) 32 rfl Try.underlying22 info29 rfl (by decide) (by omega) v_a4 (o.take o.length) [x] _ _ _ (fun _ => True) (fun _ => False) rfl rfl (Kd.R_below ho_a4 hst_b6) (tm_C_one hq_b6) (fun x cs h => by rw [k29_open h]; exact k29_mkM _ _ _ x) (fun _ h => h.elim) (fun _ _ => trivial) hb_b6 hb_b6.size (by first | (simp; done) | (simp; omega)) ?_
      intro v_c7 wc7 ho_c7 hb_c7 hg_c7 hat_c7
      refine hK.out _ _ hb_c7 (fun hHeld_c7 => ?_)
      clear hK K
      refine norm_ (a' := ?_) ?_ ?_
      rotate_left
      ·simp only [Act.put, List.setIfInBounds_toArray, List.set_cons_zero, List.set_cons_succ, i64_w, i32_w]
       rfl
      refine one_ (i := 11) (N := some 38) #[true, true, true, true, true, true, true, true, true, true, true, true, false] rfl rfl (by kernel_rfl) (by decide) (fun K hK => ?_)
      refine Kd.R_append_rows_step k29 (w0 := wz) wz.heap.size rfl (.tmp 34) (.tmp 37) 22 29 (.agg #[(.int .i64 0), (.int .i64 0), (.int .u8 0), (.int .i64 0)]) 32 rfl Try.underlying22 info29 rfl (by decide) (by omega) v_c7 (o.take o.length ++ [x]) (o.drop o.length) _ _ _ (fun _ => True) (fun _ => False) rfl rfl ho_c7 (tm_drop (Kd.C_below HCZ.out hb_c7) hao hcl3) (fun x cs h => by rw [k29_open h]; exact k29_mkM _ _ _ x) (fun _ h => h.elim) (fun _ _ => trivial) hb_c7 hb_c7.size (by first | (simp; done) | (simp; omega)) ?_
      intro v_c8 wc8 ho_c8 hb_c8 hg_c8 hat_c8
      refine hK.out _ _ hb_c8 (fun hHeld_c8 => ?_)
      clear hK K
      refine norm_ (a' := ?_) ?_ ?_
      rotate_left
      ·simp only [Act.put, List.setIfInBounds_toArray, List.set_cons_zero, List.set_cons_succ, i64_w, i32_w]
       rfl
      refine pure_ (i := 12) (N := some 3) (v := v_c8) #[true, true, true, true, true, true, true, true, true, true, true, true, true] rfl rfl (by kernel_rfl) (fun _ _ _ h => h) (Or.inl ⟨by rfl, fun w' => by go_simp⟩) rfl ?_
      refine norm_ (a' := ?_) ?_ ?_
      rotate_left
      ·simp only [Act.put, List.setIfInBounds_toArray, List.set_cons_zero, List.set_cons_succ, i64_w, i32_w]
       rfl
      refine done_ (by kernel_rfl) ?_
      go_wp2
      go_roundw
      case rel =>
       have hal2 : (o.take o.length ++ [x] ++ o.drop o.length).length = o.length + 1 := by first | (simp; done) | (simp; omega)
       exact ⟨i + 1, Hp.ins tm_lt x o, by go_num, by omega, by rw [HINS.out, hal2, HOL.out], Lib.hid (by rw [HINS.out]; exact Kd.R_lower ho_c8 HBZ.out.size), Lib.hid (below_then HBZ.out HBZ.out.size hb_c8), Lib.hid (by rw [HE.out, List.drop_eq_getElem_cons hil, HX.out]; rfl)⟩
      case measure => simp [intOf]; omega
     ·-- 6, then 4
      refine event_step (w1 := we0.alloc (.cells #[.int .i64 x.f0, .int .i64 x.f1, .int .u8 x.f2, .int .i64 x.f3] 29)) (v := .slice (some ⟨we0.heap.size, 0, none⟩) 1 1) rfl (by go_simp) ?_
      have hb_b6 := below_then hb_e0 hb_e0.size (below_alloc (Below.refl we0.heap.size we0) (.cells #[.int .i64 x.f0, .int .i64 x.f1, .int .u8 x.f2, .int .i64 x.f3] 29))
      have hq_b6 := blk_new we0 (.cells #[.int .i64 x.f0, .int .i64 x.f1, .int .u8 x.f2, .int .i64 x.f3] 29)
      have hst_b6 : Below we0.heap.size we0 (we0.alloc (.cells #[.int .i64 x.f0, .int .i64 x.f1, .int .u8 x.f2, .int .i64 x.f3] 29)) := below_alloc (Below.refl _ _) _
      refine hK.out _ _ hb_b6 (fun hHeld_b6 => ?_)
      clear hK K
      refine norm_ (a' := ?_) ?_ ?_
      rotate_left
      ·simp only [Act.put, List.setIfInBounds_toArray, List.set_cons_zero, List.set_cons_succ, i64_w, i32_w]
       rfl
      generalize we0.alloc (.cells #[.int .i64 x.f0, .int .i64 x.f1, .int .u8 x.f2, .int .i64 x.f3] 29) = wb6 at hb_b6 hq_b6 hst_b6 hHeld_b6 ⊢
      have hql := blk_lt hq_b6
      refine one_ (i := 4) (N := some 31) #[true, true, true, true, true, true, true, false, true, true, true, false, false] rfl rfl (by kernel_rfl) (by decide) (fun K hK => ?_)
      refine Kd.R_append_rows_step k29 (w0 := wz) wz.heap.size rfl (.tmp 27) (.tmp 30) 22 29 (.agg #[(.int .i64 0), (.int .i64 0), (.int .u8 0), (.int .i64 0)]) 32 rfl Try.underlying22 info29 rfl (by decide) (by omega) _ ([] : List S29) (o.take o.length) _ _ _ (fun _ => True) (fun _ => False) rfl rfl (Kd.R_below he_e0 hst_b6) (tm_take (Kd.C_below HCZ.out hb_b6) hao) (fun x cs h => by rw [k29_open h]; exact k29_mkM _ _ _ x) (fun _ h => h.elim) (fun _ _ => trivial) hb_b6 hb_b6.size (by first | (simp; done) | (simp; omega)) ?_
      intro v_a4 wa4 ho_a4 hb_a4 hg_a4 hat_a4
      refine hK.out _ _ hb_a4 (fun hHeld_a4 => ?_)
      clear hK K
      refine norm_ (a' := ?_) ?_ ?_
      rotate_left
      ·simp only [Act.put, List.setIfInBounds_toArray, List.set_cons_zero, List.set_cons_succ, i64_w, i32_w]
       rfl
      have hq_k := (hg_a4.block we0.heap.size hql (fun e_ => by have e2 := Option.some.inj e_; change we0.heap.size = w0_.heap.size at e2; omega)).trans hq_b6
      refine one_ (i := 7) (N := some 34) #[true, true, true, true, true, true, true, true, true, true, true, false, false] rfl rfl (by kernel_rfl) (by decide) (fun K hK => ?_)
      refine Kd.R_append_rows_step k29 (w0 := wz) wz.heap.size rfl (.tmp 31) (.tmp 33) 22 29 (.agg #[(.int .i64 0), (.int .i64 0), (.int .u8 0), (.int .i64 0)]) 32 rfl Try.underlying22 info29 rfl (by decide) (by omega) v_a4 (o.take o.length) [x] _ _ _ (fun _ => True) (fun _ => False) rfl rfl ho_a4 (tm_C_one hq_k) (fun x cs h => by rw [k29_open h]; exact k29_mkM _ _ _ x) (fun _ h => h.elim) (fun _ _ => trivial) hb_a4 hb_a4.size (by first | (simp; done) | (simp; omega)) ?_
      intro v_c7 wc7 ho_c7 hb_c7 hg_c7 hat_c7
      refine hK.out _ _ hb_c7 (fun hHeld_c7 => ?_)
      clear hK K
      refine norm_ (a' := ?_) ?_ ?_
      rotate_left
      ·simp only [Act.put, List.setIfInBounds_toArray, List.set_cons_zero, List.set_cons_succ, i64_w, i32_w]
       rfl
      refine one_ (i := 11) (N := some 38) #[true, true, true, true, true, true, true, true, true, true, true, true, false] rfl rfl (by kernel_rfl) (by decide) (fun K hK => ?_)
      refine Kd.R_append_rows_step k29 (w0 := wz) wz.heap.size rfl (.tmp 34) (.tmp 37) 22 29 (.agg #[(.int .i64 0), (.int .i64 0), (.int .u8 0), (.int .i64 0)]) 32 rfl Try.underlying22 info29 rfl (by decide) (by omega) v_c7 (o.take o.length ++ [x]) (o.drop o.length) _ _ _ (fun _ => True) (fun _ => False) rfl rfl ho_c7 (tm_drop (Kd.C_below HCZ.out hb_c7) hao hcl3) (fun x cs h => by rw [k29_open h]; exact k29_mkM _ _ _ x) (fun _ h => h.elim) (fun _ _ => trivial) hb_c7 hb_c7.size (by first | (simp; done) | (simp; omega)) ?_
      intro v_c8 wc8 ho_c8 hb_c8 hg_c8 hat_c8
      refine hK.out _ _ hb_c8 (fun hHeld_c8 => ?_)
      clear hK K
      refine norm_ (a' := ?_) ?_ ?_
      rotate_left
      ·simp only [Act.put, List.setIfInBounds_toArray, List.set_cons_zero, List.set_cons_succ, i64_w, i32_w]
       rfl
      refine pure_ (i := 12) (N := some 3) (v := v_c8) #[true, true, true, true, true, true, true, true, true, true, true, true, true] rfl rfl (by kernel_rfl) (fun _ _ _ h => h) (Or.inl ⟨by rfl, fun w' => by go_simp⟩) rfl ?_
      refine norm_ (a' := ?_) ?_ ?_
      rotate_left
      ·simp only [Act.put, List.setIfInBounds_toArray, List.set_cons_zero, List.set_cons_succ, i64_w, i32_w]
       rfl
      refine done_ (by kernel_rfl) ?_
      go_wp2
      go_roundw
      case rel =>
       have hal2 : (o.take o.length ++ [x] ++ o.drop o.length).length = o.length + 1 := by first | (simp; done) | (simp; omega)
       exact ⟨i + 1, Hp.ins tm_lt x o, by go_num, by omega, by rw [HINS.out, hal2, HOL.out], Lib.hid (by rw [HINS.out]; exact Kd.R_lower ho_c8 HBZ.out.size), Lib.hid (below_then HBZ.out HBZ.out.size hb_c8), Lib.hid (by rw [HE.out, List.drop_eq_getElem_cons hil, HX.out]; rfl)⟩
      case measure => simp [intOf]; omega
    ·-- 6 first
     refine event_step (w1 := w0_.alloc (.cells #[.int .i64 x.f0, .int .i64 x.f1, .int .u8 x.f2, .int .i64 x.f3] 29)) (v := .slice (some ⟨w0_.heap.size, 0, none⟩) 1 1) rfl (by go_simp) ?_
     have hb_b6 := below_then hHeld hHeld.size (below_alloc (Below.refl w0_.heap.size w0_) (.cells #[.int .i64 x.f0, .int .i64 x.f1, .int .u8 x.f2, .int .i64 x.f3] 29))
     have hq_b6 := blk_new w0_ (.cells #[.int .i64 x.f0, .int .i64 x.f1, .int .u8 x.f2, .int .i64 x.f3] 29)
     have hst_b6 : Below w0_.heap.size w0_ (w0_.alloc (.cells #[.int .i64 x.f0, .int .i64 x.f1, .int .u8 x.f2, .int .i64 x.f3] 29)) := below_alloc (Below.refl _ _) _
     refine hK.out _ _ hb_b6 (fun hHeld_b6 => ?_)
     clear hK K
     refine norm_ (a' := ?_) ?_ ?_
     rotate_left
     ·simp only [Act.put, List.setIfInBounds_toArray, List.set_cons_zero, List.set_cons_succ, i64_w, i32_w]
      rfl
     generalize w0_.alloc (.cells #[.int .i64 x.f0, .int .i64 x.f1, .int .u8 x.f2, .int .i64 x.f3] 29) = wb6 at hb_b6 hq_b6 hst_b6 hHeld_b6 ⊢
     have hql := blk_lt hq_b6
     refine one_ (i := 0) (N := some 27) #[true, true, true, true, false, true, true, false, true, true, true, false, false] rfl rfl (by kernel_rfl) (by decide) (fun K hK => ?_)
     refine event_step (w1 := wb6.alloc (.cells #[] 29)) (v := .slice (some ⟨wb6.heap.size, 0, none⟩) 0 0) rfl (by go_simp) ?_
     have hb_e0 := below_then hb_b6 hb_b6.size (below_alloc (Below.refl wb6.heap.size wb6) (.cells #[] 29))
     have he_e0 := tm_R_empty (B := wz.heap.size) (W := wb6) hb_b6.size
     refine hK.out _ _ hb_e0 (fun hHeld_e0 => ?_)
     clear hK K
     refine norm_ (a' := ?_) ?_ ?_
     rotate_left
     ·simp only [Act.put, List.setIfInBounds_toArray, List.set_cons_zero, List.set_cons_succ, i64_w, i32_w]
      rfl
     have hl_e0 : wb6.heap.size < (wb6.alloc (.cells #[] 29)).heap.size := by simp
     have hal_e0 := below_alloc (Below.refl wb6.heap.size wb6) (.cells #[] 29)
     generalize wb6.alloc (.cells #[] 29) = we0 at hb_e0 he_e0 hHeld_e0 hl_e0 hal_e0 ⊢
     refine one_ (i := 4) (N := some 31) #[true, true, true, true, true, true, true, false, true, true, true, false, false] rfl rfl (by kernel_rfl) (by decide) (fun K hK => ?_)
     refine Kd.R_append_rows_step k29 (w0 := wz) wz.heap.size rfl (.tmp 27) (.tmp 30) 22 29 (.agg #[(.int .i64 0), (.int .i64 0), (.int .u8 0), (.int .i64 0)]) 32 rfl Try.underlying22 info29 rfl (by decide) (by omega) _ ([] : List S29) (o.take o.length) _ _ _ (fun _ => True) (fun _ => False) rfl rfl he_e0 (tm_take (Kd.C_below HCZ.out hb_e0) hao) (fun x cs h => by rw [k29_open h]; exact k29_mkM _ _ _ x) (fun _ h => h.elim) (fun _ _ => trivial) hb_e0 hb_e0.size (by first | (simp; done) | (simp; omega)) ?_
     intro v_a4 wa4 ho_a4 hb_a4 hg_a4 hat_a4
     refine hK.out _ _ hb_a4 (fun hHeld_a4 => ?_)
     clear hK K
     refine norm_ (a' := ?_) ?_ ?_
     rotate_left
     ·simp only [Act.put, List.setIfInBounds_toArray, List.set_cons_zero, List.set_cons_succ, i64_w, i32_w]
      rfl
     have hq_j := (hal_e0.block w0_.heap.size hql).trans hq_b6
     have hq_k := (hg_a4.block w0_.heap.size (blk_lt hq_j) (fun e_ => by have e2 := Option.some.inj e_; change w0_.heap.size = wb6.heap.size at e2; omega)).trans hq_j
     refine one_ (i := 7) (N := some 34) #[true, true, true, true, true, true, true, true, true, true, true, false, false] rfl rfl (by kernel_rfl) (by decide) (fun K hK => ?_)
     refine Kd.R_append_rows_step k29 (w0 := wz) wz.heap.size rfl (.tmp 31) (.tmp 33) 22 29 (.agg #[(.int .i64 0), (.int .i64 0), (.int .u8 0), (.int .i64 0)]) 32 rfl Try.underlying22 info29 rfl (by decide) (by omega) v_a4 (o.take o.length) [x] _ _ _ (fun _ => True) (fun _ => False) rfl rfl ho_a4 (tm_C_one hq_k) (fun x cs h => by rw [k29_open h]; exact k29_mkM _ _ _ x) (fun _ h => h.elim) (fun _ _ => trivial) hb_a4 hb_a4.size (by first | (simp; done) | (simp; omega)) ?_
     intro v_c7 wc7 ho_c7 hb_c7 hg_c7 hat_c7
     refine hK.out _ _ hb_c7 (fun hHeld_c7 => ?_)
     clear hK K
     refine norm_ (a' := ?_) ?_ ?_
     rotate_left
     ·simp only [Act.put, List.setIfInBounds_toArray, List.set_cons_zero, List.set_cons_succ, i64_w, i32_w]
      rfl
     refine one_ (i := 11) (N := some 38) #[true, true, true, true, true, true, true, true, true, true, true, true, false] rfl rfl (by kernel_rfl) (by decide) (fun K hK => ?_)
     refine Kd.R_append_rows_step k29 (w0 := wz) wz.heap.size rfl (.tmp 34) (.tmp 37) 22 29 (.agg #[(.int .i64 0), (.int .i64 0), (.int .u8 0), (.int .i64 0)]) 32 rfl Try.underlying22 info29 rfl (by decide) (by omega) v_c7 (o.take o.length ++ [x]) (o.drop o.length) _ _ _ (fun _ => True) (fun _ => False) rfl rfl ho_c7 (tm_drop (Kd.C_below HCZ.out hb_c7) hao hcl3) (fun x cs h => by rw [k29_open h]; exact k29_mkM _ _ _ x) (fun _ h => h.elim) (fun _ _ => trivial) hb_c7 hb_c7.size (by first | (simp; done) | (simp; omega)) ?_
     intro v_c8 wc8 ho_c8 hb_c8 hg_c8 hat_c8
     refine hK.out _ _ hb_c8 (fun hHeld_c8 => ?_)
     clear hK K
     refine norm_ (a' := ?_) ?_ ?_
     rotate_left
     ·simp only [Act.put, List.setIfInBounds_toArray, List.set_cons_zero, List.set_cons_succ, i64_w, i32_w]
      rfl
     refine pure_ (i := 12) (N := some 3) (v := v_c8) #[true, true, true, true, true, true, true, true, true, true, true, true, true] rfl rfl (by kernel_rfl) (fun _ _ _ h => h) (Or.inl ⟨by rfl, fun w' => by go_simp⟩) rfl ?_
     refine norm_ (a' := ?_) ?_ ?_
     rotate_left
     ·simp only [Act.put, List.setIfInBounds_toArray, List.set_cons_zero, List.set_cons_succ, i64_w, i32_w]
      rfl
     refine done_ (by kernel_rfl) ?_
     go_wp2
     go_roundw
     case rel =>
      have hal2 : (o.take o.length ++ [x] ++ o.drop o.length).length = o.length + 1 := by first | (simp; done) | (simp; omega)
      exact ⟨i + 1, Hp.ins tm_lt x o, by go_num, by omega, by rw [HINS.out, hal2, HOL.out], Lib.hid (by rw [HINS.out]; exact Kd.R_lower ho_c8 HBZ.out.size), Lib.hid (below_then HBZ.out HBZ.out.size hb_c8), Lib.hid (by rw [HE.out, List.drop_eq_getElem_cons hil, HX.out]; rfl)⟩
     case measure => simp [intOf]; omega


end Go.Proofs.Ytlpbolkbdcgmnaa.XD
-- squeezed
