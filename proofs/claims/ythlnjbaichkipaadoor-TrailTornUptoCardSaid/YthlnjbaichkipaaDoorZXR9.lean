-- by px.py, a program of this session, over the kit's printer: functions given by hand stand beside printed ones. Lean checks all of it.
import Derived.Test.YthlnjbaichkipaaDoorZXR0
import Derived.Test.YthlnjbaichkipaaDoorZXR2
import Derived.Test.YthlnjbaichkipaaDoorZXR3
import Derived.Test.YthlnjbaichkipaaDoorZXR4
import Derived.Test.YthlnjbaichkipaaDoorZXR5
import Derived.Test.YthlnjbaichkipaaDoorZXR7
import Derived.Test.YthlnjbaichkipaaDoorZXR8
import Derived.Test.YthlnjbaichkipaaDoorZGDev
import Derived.Test.YthlnjbaichkipaaDoorZGKey
import Derived.Test.YthlnjbaichkipaaDoorZGRep
namespace Go.Proofs.YthlnjbaichkipaaDoor.XR
open Go.RowKit Go.Proofs.YthlnjbaichkipaaDoorW.PrintWords Go.Proofs.YthlnjbaichkipaaDoorW.PrintLast Go.Proofs.YthlnjbaichkipaaDoorW.PrintMore
attribute [local go_sem] max2_int min2_int max_two min_two max_three min_three max_four min_four   -- for this text's walks alone
set_option linter.unusedVariables false
set_option linter.unusedSimpArgs false
def tr_wr (D : Dv) (pos : Int) : List ByteArray → Dv × Int
 | [] => (D, 0)
 | s :: r => if (dv_write D pos s).2 = 0 then tr_wr (dv_write D pos s).1 (pos + 1) r else dv_write D pos s
def tr_append (D : Dv) (f m u : Int) (l : List ByteArray) (why : Int) : Dv × Int × Int :=
 if u < 0 ∨ m < u then (D, 0, 1) else if why ≠ 0 then (D, 0, why) else if m - u < (l.length : Int) then (D, 0, 8)
 else if (tr_wr D (f + u) l).2 = 0 then ((tr_wr D (f + u) l).1, u + (l.length : Int), 0) else ((tr_wr D (f + u) l).1, 0, (tr_wr D (f + u) l).2)
def tr_sane (D : Dv) : Prop := -1 ≤ D.f ∧ D.f ≤ 9223372036854775807 ∧ D.w.length ≤ 4096
theorem tr_ok_sane {D : Dv} (h : dv_check D = 0) (hf : D.f ≤ 9223372036854775807) : tr_sane D := by
 have := dv_check_ok h
 unfold dv_ok at this
 simp only [Bool.and_eq_true, decide_eq_true_eq] at this
 exact ⟨this.2.2.1, hf, this.2.1⟩
theorem tr_sane_asks {D : Dv} (h : tr_sane D) : tr_sane (dv_asks D).1 := by
 obtain ⟨h1, h2, h3⟩ := h
 unfold dv_asks
 split
 ·exact ⟨h1, h2, h3⟩
 ·refine ⟨?_, ?_, h3⟩ <;> simp only <;> split <;> omega
theorem tr_sane_write {D : Dv} (h : tr_sane D) (a : Int) (s : ByteArray) : tr_sane (dv_write D a s).1 := by
 unfold dv_write
 split
 ·split
  ·exact h
  ·split
   ·exact h
   ·rename_i hne
    refine tr_sane_asks ⟨h.1, h.2.1, ?_⟩
    have := h.2.2
    simp only [List.length_append, List.length_cons, List.length_nil]
    omega
 ·exact h
set_option maxHeartbeats 4000000 in
set_option maxRecDepth 100000 in
theorem tr_rAppend (P : Nat → Prop) (g : Nat) (D : Dv) (f m u : Int) (rec F : ByteArray) (why : Int) (w : World) (hP : ∀ k, P k → k < w.heap.size) (hq : DQ P g w D) (hs : tr_sane D) (hb : D.b.length ≤ 4096) (h : tr_in D.b.length f m) (hfr : sum_Frame.f rec = some (F, why)) (hF : F.size ≤ 1000000) :
  Calls Tryd.prog 23 #[.agg #[.pointer (some ⟨g, 0, none⟩), .int .i64 f, .int .i64 m], .int .i64 u, .string rec] w fun e w' => e = .returned (.tuple #[.int .i64 (tr_append D f m u (if why = 0 then tr_cut F else []) why).2.1, .int .i64 (tr_append D f m u (if why = 0 then tr_cut F else []) why).2.2]) ∧ DQ (fun k => P k ∨ (w.heap.size ≤ k ∧ k < w'.heap.size)) g w' (tr_append D f m u (if why = 0 then tr_cut F else []) why).1 ∧ Mv P w w' := by
 have hn := blk_new w (.cells #[.pointer (some ⟨g, 0, none⟩), .int .i64 f, .int .i64 m] 51)
 have hbl := below_alloc (Below.refl w.heap.size w) (.cells #[.pointer (some ⟨g, 0, none⟩), .int .i64 f, .int .i64 m] 51)
 have hm : m ≤ 4096 := by have := h.2.2.2; have := h.2.1; omega
 have hf : f ≤ 4096 ∧ 0 ≤ f := by have := h.2.2.1; have := h.2.1; omega
 have hm0 : 0 ≤ m := h.1
 have HFR := Lib.hid (tr_frame rec F why hfr hF (w.alloc (.cells #[.pointer (some ⟨g, 0, none⟩), .int .i64 f, .int .i64 m] 51)))
 generalize hL : (if why = 0 then tr_cut F else []) = l at HFR ⊢
 have hl0 : why ≠ 0 → l = [] := fun hw => by rw [← hL, if_neg hw]
 have HN := Lib.hid hn
 have HB := Lib.hid hbl
 have HQ := Lib.hid hq
 have HP := Lib.hid hP
 have HS := Lib.hid hs
 unfold tr_append
 clear hn hbl hq hP hs hb h hfr hF hL
 obtain ⟨x0, x1, x2⟩ := blk_cells3 HN.out
 have hdone : DQ (fun k => P k ∨ (w.heap.size ≤ k ∧ k < (w.alloc (.cells #[.pointer (some ⟨g, 0, none⟩), .int .i64 f, .int .i64 m] 51)).heap.size)) g (w.alloc (.cells #[.pointer (some ⟨g, 0, none⟩), .int .i64 f, .int .i64 m] 51)) D := (HQ.out.below HB.out).mono (fun k hk => .inl hk)
 have HDONE := Lib.hid hdone
 clear hdone
 by_cases c1 : u < 0
 ·rw [if_pos (.inl c1)]
  have d1 : decide (u < 0) = true := decide_eq_true c1
  go_enter Tryd.func23, Tryd.ntmps23
  go_wp2
  go_ret2
  exact ⟨rfl, HDONE.out, Mv.of_below HB.out P⟩
 have d1 : decide (u < 0) = false := decide_eq_false c1
 by_cases c2 : m < u
 ·rw [if_pos (.inr c2)]
  have d2 : decide (m < u) = true := decide_eq_true c2
  go_enter Tryd.func23, Tryd.ntmps23
  go_wp2
  go_ret2
  exact ⟨rfl, HDONE.out, Mv.of_below HB.out P⟩
 have d2 : decide (m < u) = false := decide_eq_false c2
 rw [if_neg (show ¬ (u < 0 ∨ m < u) by omega)]
 have hw1 : wrap64 (m - u) = m - u := by unfold wrap64; omega
 obtain ⟨R, hR⟩ : ∃ R : Dv × Int, R = if why ≠ 0 then (D, why) else if m - u < (l.length : Int) then (D, 8) else tr_wr D (f + u) l := ⟨_, rfl⟩
 have hgoal : (if why ≠ 0 then (D, 0, why) else if m - u < (l.length : Int) then (D, 0, 8) else if (tr_wr D (f + u) l).2 = 0 then ((tr_wr D (f + u) l).1, u + (l.length : Int), 0) else ((tr_wr D (f + u) l).1, 0, (tr_wr D (f + u) l).2)) = (R.1, (if R.2 = 0 then u + (l.length : Int) else 0), R.2) := by
  rw [hR]
  by_cases a : why ≠ 0
  ·rw [if_pos a, if_pos a]
   simp only
   rw [if_neg a]
  ·rw [if_neg a, if_neg a]
   by_cases b : m - u < (l.length : Int)
   ·rw [if_pos b, if_pos b]; rfl
   ·rw [if_neg b, if_neg b]
    by_cases c : (tr_wr D (f + u) l).2 = 0
    ·rw [if_pos c, if_pos c, c]
    ·rw [if_neg c, if_neg c]
 rw [hgoal]
 simp only
 clear hgoal
 by_cases c3 : why ≠ 0
 ·rw [if_pos c3] at hR
  have d3 : (why == 0) = false := beq_eq_false_iff_ne.mpr c3
  have hl1 := Lib.hid (hl0 c3)
  clear hl0
  go_enter Tryd.func23, Tryd.ntmps23
  go_wp2_with (go_at_call 33; refine HFR.out.mono ?_; rintro e w3 ⟨v8, rfl, ht3, ho3, hb3⟩; obtain ⟨A8, c8, rfl, hc8⟩ := ht3.slice; have HT3 := Lib.hid ht3; have HO3 := Lib.hid ho3; have HQ3 := Lib.hid ((HQ.out.below HB.out).below hb3); have HN3 := Lib.hid ((hb3.block _ (blk_lt HN.out)).trans HN.out); have HM3 := Lib.hid ((Mv.of_below HB.out P).below hb3); have HSZ3 := Lib.hid hb3.size; obtain ⟨w3x0, w3x1, w3x2⟩ := blk_cells3 HN3.out; clear ht3 ho3 hb3)
  have HR0 := Lib.hid hR
  clear hR
  go_loopw [1, 9, 38] (fun v1 v9 v38 W => ∃ (j : Nat) (E : Dv) (y z : Int), v1 = .int .i64 z ∧ v9 = .int .i64 y ∧ v38 = .int .i64 (j : Int) ∧ j ≤ l.length ∧ (y = 0 → z = u + (j : Int) ∧ u + (l.length : Int) ≤ m) ∧ (0 ≤ z ∧ z ≤ 4097) ∧ Hid ((y = 0 → R = tr_wr E (f + z) (l.drop j)) ∧ (y ≠ 0 → R = (E, y))) ∧ Hid (tr_sane E) ∧ Hid (DQ (fun k => P k ∨ (w3.heap.size ≤ k ∧ k < W.heap.size)) g W E) ∧ Hid (Mv P w3 W)) (fun _ _ v38 _ => l.length - (intOf v38).toNat)
  case atStart => exact ⟨0, D, why, u, rfl, rfl, rfl, Nat.zero_le _, fun hy => absurd hy c3, by omega, Lib.hid ⟨fun hy => absurd hy c3, fun _ => HR0.out⟩, HS, Lib.hid (HQ3.out.mono (fun k hk => .inl hk)), Lib.hid (Mv.refl _ _)⟩
  case round =>
   obtain ⟨j, E, y, z, rfl, rfl, rfl, hj, hyz, hz, HRR, HSE, HQE, HME⟩ := hrel
   clear hw1
   by_cases hlt : j < l.length
   rotate_left
   ·obtain rfl : j = l.length := by omega
    have q1 : ¬ ((l.length : Int) < (l.length : Int)) := by omega
    by_cases cy : y = 0
    ·have hres := HRR.out.1 cy
     have hz2 := (hyz cy).1
     subst cy
     rw [List.drop_length, tr_wr] at hres
     subst hres
     subst hz2
     go_wp2
     go_ret2
     refine ⟨by simp, ?_, ?_⟩
     ·exact HQE.out.mono (fun k hk => hk.imp id (fun h => ⟨Nat.le_trans (Nat.le_trans HB.out.size HSZ3.out) h.1, h.2⟩))
     ·exact HM3.out.then_ HME.out (fun k hk => .inl hk)
    ·have hres := HRR.out.2 cy
     subst hres
     have d5 : (y != 0) = true := bne_iff_ne.mpr cy
     try simp only [if_neg cy]
     go_wp2
     go_ret2
     refine ⟨rfl, ?_, ?_⟩
     ·exact HQE.out.mono (fun k hk => hk.imp id (fun h => ⟨Nat.le_trans (Nat.le_trans HB.out.size HSZ3.out) h.1, h.2⟩))
     ·exact HM3.out.then_ HME.out (fun k hk => .inl hk)
   ·exact absurd hlt (by rw [hl1.out]; simp)
 rw [if_neg c3] at hR
 have c3 : why = 0 := by omega
 subst c3
 clear hl0
 by_cases c4 : m - u < (l.length : Int)
 ·rw [if_pos c4] at hR
  have d4 : decide (m - u < (l.length : Int)) = true := decide_eq_true c4
  go_enter Tryd.func23, Tryd.ntmps23
  go_wp2_with (go_at_call 33; refine HFR.out.mono ?_; rintro e w3 ⟨v8, rfl, ht3, ho3, hb3⟩; obtain ⟨A8, c8, rfl, hc8⟩ := ht3.slice; have HT3 := Lib.hid ht3; have HO3 := Lib.hid ho3; have HQ3 := Lib.hid ((HQ.out.below HB.out).below hb3); have HN3 := Lib.hid ((hb3.block _ (blk_lt HN.out)).trans HN.out); have HM3 := Lib.hid ((Mv.of_below HB.out P).below hb3); have HSZ3 := Lib.hid hb3.size; obtain ⟨w3x0, w3x1, w3x2⟩ := blk_cells3 HN3.out; clear ht3 ho3 hb3)
  have HR0 := Lib.hid hR
  clear hR
  go_loopw [1, 9, 38] (fun v1 v9 v38 W => ∃ (j : Nat) (E : Dv) (y z : Int), v1 = .int .i64 z ∧ v9 = .int .i64 y ∧ v38 = .int .i64 (j : Int) ∧ j ≤ l.length ∧ (y = 0 → z = u + (j : Int) ∧ u + (l.length : Int) ≤ m) ∧ (0 ≤ z ∧ z ≤ 4097) ∧ Hid ((y = 0 → R = tr_wr E (f + z) (l.drop j)) ∧ (y ≠ 0 → R = (E, y))) ∧ Hid (tr_sane E) ∧ Hid (DQ (fun k => P k ∨ (w3.heap.size ≤ k ∧ k < W.heap.size)) g W E) ∧ Hid (Mv P w3 W)) (fun _ _ v38 _ => l.length - (intOf v38).toNat)
  case atStart => exact ⟨0, D, 8, u, rfl, rfl, rfl, Nat.zero_le _, fun hy => absurd hy (by decide), by omega, Lib.hid ⟨fun hy => absurd hy (by decide), fun _ => HR0.out⟩, HS, Lib.hid (HQ3.out.mono (fun k hk => .inl hk)), Lib.hid (Mv.refl _ _)⟩
  case round =>
   obtain ⟨j, E, y, z, rfl, rfl, rfl, hj, hyz, hz, HRR, HSE, HQE, HME⟩ := hrel
   clear hw1
   by_cases hlt : j < l.length
   rotate_left
   ·obtain rfl : j = l.length := by omega
    have q1 : ¬ ((l.length : Int) < (l.length : Int)) := by omega
    by_cases cy : y = 0
    ·have hres := HRR.out.1 cy
     have hz2 := (hyz cy).1
     subst cy
     rw [List.drop_length, tr_wr] at hres
     subst hres
     subst hz2
     go_wp2
     go_ret2
     refine ⟨by simp, ?_, ?_⟩
     ·exact HQE.out.mono (fun k hk => hk.imp id (fun h => ⟨Nat.le_trans (Nat.le_trans HB.out.size HSZ3.out) h.1, h.2⟩))
     ·exact HM3.out.then_ HME.out (fun k hk => .inl hk)
    ·have hres := HRR.out.2 cy
     subst hres
     have d5 : (y != 0) = true := bne_iff_ne.mpr cy
     try simp only [if_neg cy]
     go_wp2
     go_ret2
     refine ⟨rfl, ?_, ?_⟩
     ·exact HQE.out.mono (fun k hk => hk.imp id (fun h => ⟨Nat.le_trans (Nat.le_trans HB.out.size HSZ3.out) h.1, h.2⟩))
     ·exact HM3.out.then_ HME.out (fun k hk => .inl hk)
   ·have q1 : (j : Int) < (l.length : Int) := by omega
    obtain ⟨bb, cap, cur, he, hrow, _, _, _, _⟩ := HT3.out.form (by omega)
    simp only [Value.slice.injEq] at he
    obtain ⟨rfl, _, rfl⟩ := he
    have hnP : ¬ P bb := fun hp => by
     have h1 := HP.out bb hp
     have h2 := HO3.out bb rfl
     have := HB.out.size
     omega
    have hc := HME.out.cell (HT3.out.cell (List.getElem?_eq_getElem hlt) (t := 0) (u := .string l[j]) rfl) hnP
    rw [Nat.mul_one, Nat.add_zero] at hc
    have hdr : l.drop j = l[j] :: l.drop (j + 1) := List.drop_eq_getElem_cons hlt
    generalize l[j] = s at hc hdr
    have HAR := Lib.hid (show y = 0 → (z + 1 = u + ((j + 1 : Nat) : Int) ∧ u + (l.length : Int) ≤ m) ∧ (0 ≤ z + 1 ∧ z + 1 ≤ 4097) from fun hy => by have := hyz hy; omega)
    have HAJ := Lib.hid (show j + 1 ≤ l.length by omega)
    have HAM := Lib.hid (show l.length - (j + 1) < l.length - j by omega)
    have hw64 : wrap64 ((j : Int) + 1) = ((j + 1 : Nat) : Int) := by have := HT3.out.max; unfold wrap64; omega
    have hnw : ¬ P w.heap.size := fun hp => by have := HP.out _ hp; omega
    obtain ⟨x0, x1, x2⟩ := blk_cells3 (HME.out.blk HN3.out hnw)
    have HLT := Lib.hid (And.intro hlt hz)
    have HHM := Lib.hid (And.intro hm (And.intro hf hm0))
    by_cases cy : y = 0
    ·have hres := HRR.out.1 cy
     have hyz2 := hyz cy
     subst cy
     have hw5 : wrap64 (f + z) = f + z := by unfold wrap64; omega
     have hw6 : wrap64 (z + 1) = z + 1 := by unfold wrap64; omega
     rw [hdr, tr_wr] at hres
     have HWR := Lib.hid (dev_write _ g E (f + z) s wr (fun k hk => hk.elim (fun hp => Nat.lt_of_lt_of_le (HP.out k hp) (Nat.le_trans HB.out.size (Nat.le_trans HSZ3.out HME.out.size))) (fun h => h.2)) HQE.out HSE.out.1 HSE.out.2.1 (by have := HSE.out.2.2; omega))
     have hse := tr_sane_write HSE.out (f + z) s
     generalize dv_write E (f + z) s = E2 at HWR hres hse
     obtain ⟨E2, y2⟩ := E2
     simp only at HWR hres hse
     have HRES := Lib.hid hres
     have HSE2 := Lib.hid hse
     have HYZ := Lib.hid hyz2
     clear hres hse hyz2 hyz hlt hz hdr hrow HRR hm hf hm0
     go_wp2_with (go_at_call 36; refine HWR.out.mono ?_; rintro e w5 ⟨rfl, hq5, hm5⟩; have HQ5 := Lib.hid hq5; have HM5 := Lib.hid hm5; clear hq5 hm5)
     go_roundw
     case rel =>
      refine ⟨j + 1, E2, y2, z + 1, by first | rfl | rw [hw6], rfl, by first | (with_reducible rfl) | (rw [hw64]), HAJ.out, fun hy => (HAR.out (by trivial)).1, (HAR.out (by trivial)).2, Lib.hid ⟨fun hy => ?_, fun hy => ?_⟩, HSE2, Lib.hid (HQ5.out.mono (fun k hk => ?_)), Lib.hid (HME.out.then_ HM5.out (fun k hk => hk.imp id (fun h => h.1)))⟩
      ·have hh := HRES.out
       rw [if_pos hy] at hh
       rw [hh, Int.add_assoc]
      ·have hh := HRES.out
       rw [if_neg hy] at hh
       exact hh
      ·clear hw5 hw6 hw64
       have h5 := HM5.out.size
       have h6 := HME.out.size
       rcases hk with (hk | hk) | hk
       ·exact .inl hk
       ·exact .inr ⟨hk.1, by omega⟩
       ·exact .inr ⟨by omega, hk.2⟩
     case measure => rw [hw64]; exact HAM.out
    ·have d5 : (y == 0) = false := beq_eq_false_iff_ne.mpr cy
     have hres := HRR.out.2 cy
     have HRES := Lib.hid hres
     clear hres hlt hz hdr hrow HRR hm hf hm0
     go_wp2
     go_roundw
     case rel => exact ⟨j + 1, E, y, z, rfl, rfl, by first | (with_reducible rfl) | (rw [hw64]), HAJ.out, fun hy => absurd hy cy, HLT.out.2, Lib.hid ⟨fun hy => absurd hy cy, fun _ => HRES.out⟩, HSE, HQE, HME⟩
     case measure => rw [hw64]; exact HAM.out
 rw [if_neg c4] at hR
 have d4 : decide (m - u < (l.length : Int)) = false := decide_eq_false c4
 go_enter Tryd.func23, Tryd.ntmps23
 go_wp2_with (go_at_call 33; refine HFR.out.mono ?_; rintro e w3 ⟨v8, rfl, ht3, ho3, hb3⟩; obtain ⟨A8, c8, rfl, hc8⟩ := ht3.slice; have HT3 := Lib.hid ht3; have HO3 := Lib.hid ho3; have HQ3 := Lib.hid ((HQ.out.below HB.out).below hb3); have HN3 := Lib.hid ((hb3.block _ (blk_lt HN.out)).trans HN.out); have HM3 := Lib.hid ((Mv.of_below HB.out P).below hb3); have HSZ3 := Lib.hid hb3.size; obtain ⟨w3x0, w3x1, w3x2⟩ := blk_cells3 HN3.out; clear ht3 ho3 hb3)
 have HR0 := Lib.hid hR
 clear hR
 go_loopw [1, 9, 38] (fun v1 v9 v38 W => ∃ (j : Nat) (E : Dv) (y z : Int), v1 = .int .i64 z ∧ v9 = .int .i64 y ∧ v38 = .int .i64 (j : Int) ∧ j ≤ l.length ∧ (y = 0 → z = u + (j : Int) ∧ u + (l.length : Int) ≤ m) ∧ (0 ≤ z ∧ z ≤ 4097) ∧ Hid ((y = 0 → R = tr_wr E (f + z) (l.drop j)) ∧ (y ≠ 0 → R = (E, y))) ∧ Hid (tr_sane E) ∧ Hid (DQ (fun k => P k ∨ (w3.heap.size ≤ k ∧ k < W.heap.size)) g W E) ∧ Hid (Mv P w3 W)) (fun _ _ v38 _ => l.length - (intOf v38).toNat)
 case atStart => exact ⟨0, D, 0, u, rfl, rfl, rfl, Nat.zero_le _, fun _ => ⟨by simp, by omega⟩, by omega, Lib.hid ⟨fun _ => HR0.out, fun hy => absurd rfl hy⟩, HS, Lib.hid (HQ3.out.mono (fun k hk => .inl hk)), Lib.hid (Mv.refl _ _)⟩
 case round =>
  obtain ⟨j, E, y, z, rfl, rfl, rfl, hj, hyz, hz, HRR, HSE, HQE, HME⟩ := hrel
  clear hw1
  by_cases hlt : j < l.length
  rotate_left
  ·obtain rfl : j = l.length := by omega
   have q1 : ¬ ((l.length : Int) < (l.length : Int)) := by omega
   by_cases cy : y = 0
   ·have hres := HRR.out.1 cy
    have hz2 := (hyz cy).1
    subst cy
    rw [List.drop_length, tr_wr] at hres
    subst hres
    subst hz2
    go_wp2
    go_ret2
    refine ⟨by simp, ?_, ?_⟩
    ·exact HQE.out.mono (fun k hk => hk.imp id (fun h => ⟨Nat.le_trans (Nat.le_trans HB.out.size HSZ3.out) h.1, h.2⟩))
    ·exact HM3.out.then_ HME.out (fun k hk => .inl hk)
   ·have hres := HRR.out.2 cy
    subst hres
    have d5 : (y != 0) = true := bne_iff_ne.mpr cy
    try simp only [if_neg cy]
    go_wp2
    go_ret2
    refine ⟨rfl, ?_, ?_⟩
    ·exact HQE.out.mono (fun k hk => hk.imp id (fun h => ⟨Nat.le_trans (Nat.le_trans HB.out.size HSZ3.out) h.1, h.2⟩))
    ·exact HM3.out.then_ HME.out (fun k hk => .inl hk)
  ·have q1 : (j : Int) < (l.length : Int) := by omega
   obtain ⟨bb, cap, cur, he, hrow, _, _, _, _⟩ := HT3.out.form (by omega)
   simp only [Value.slice.injEq] at he
   obtain ⟨rfl, _, rfl⟩ := he
   have hnP : ¬ P bb := fun hp => by
    have h1 := HP.out bb hp
    have h2 := HO3.out bb rfl
    have := HB.out.size
    omega
   have hc := HME.out.cell (HT3.out.cell (List.getElem?_eq_getElem hlt) (t := 0) (u := .string l[j]) rfl) hnP
   rw [Nat.mul_one, Nat.add_zero] at hc
   have hdr : l.drop j = l[j] :: l.drop (j + 1) := List.drop_eq_getElem_cons hlt
   generalize l[j] = s at hc hdr
   have HAR := Lib.hid (show y = 0 → (z + 1 = u + ((j + 1 : Nat) : Int) ∧ u + (l.length : Int) ≤ m) ∧ (0 ≤ z + 1 ∧ z + 1 ≤ 4097) from fun hy => by have := hyz hy; omega)
   have HAJ := Lib.hid (show j + 1 ≤ l.length by omega)
   have HAM := Lib.hid (show l.length - (j + 1) < l.length - j by omega)
   have hw64 : wrap64 ((j : Int) + 1) = ((j + 1 : Nat) : Int) := by have := HT3.out.max; unfold wrap64; omega
   have hnw : ¬ P w.heap.size := fun hp => by have := HP.out _ hp; omega
   obtain ⟨x0, x1, x2⟩ := blk_cells3 (HME.out.blk HN3.out hnw)
   have HLT := Lib.hid (And.intro hlt hz)
   have HHM := Lib.hid (And.intro hm (And.intro hf hm0))
   by_cases cy : y = 0
   ·have hres := HRR.out.1 cy
    have hyz2 := hyz cy
    subst cy
    have hw5 : wrap64 (f + z) = f + z := by unfold wrap64; omega
    have hw6 : wrap64 (z + 1) = z + 1 := by unfold wrap64; omega
    rw [hdr, tr_wr] at hres
    have HWR := Lib.hid (dev_write _ g E (f + z) s wr (fun k hk => hk.elim (fun hp => Nat.lt_of_lt_of_le (HP.out k hp) (Nat.le_trans HB.out.size (Nat.le_trans HSZ3.out HME.out.size))) (fun h => h.2)) HQE.out HSE.out.1 HSE.out.2.1 (by have := HSE.out.2.2; omega))
    have hse := tr_sane_write HSE.out (f + z) s
    generalize dv_write E (f + z) s = E2 at HWR hres hse
    obtain ⟨E2, y2⟩ := E2
    simp only at HWR hres hse
    have HRES := Lib.hid hres
    have HSE2 := Lib.hid hse
    have HYZ := Lib.hid hyz2
    clear hres hse hyz2 hyz hlt hz hdr hrow HRR hm hf hm0
    go_wp2_with (go_at_call 36; refine HWR.out.mono ?_; rintro e w5 ⟨rfl, hq5, hm5⟩; have HQ5 := Lib.hid hq5; have HM5 := Lib.hid hm5; clear hq5 hm5)
    go_roundw
    case rel =>
     refine ⟨j + 1, E2, y2, z + 1, by first | rfl | rw [hw6], rfl, by first | (with_reducible rfl) | (rw [hw64]), HAJ.out, fun hy => (HAR.out (by trivial)).1, (HAR.out (by trivial)).2, Lib.hid ⟨fun hy => ?_, fun hy => ?_⟩, HSE2, Lib.hid (HQ5.out.mono (fun k hk => ?_)), Lib.hid (HME.out.then_ HM5.out (fun k hk => hk.imp id (fun h => h.1)))⟩
     ·have hh := HRES.out
      rw [if_pos hy] at hh
      rw [hh, Int.add_assoc]
     ·have hh := HRES.out
      rw [if_neg hy] at hh
      exact hh
     ·clear hw5 hw6 hw64
      have h5 := HM5.out.size
      have h6 := HME.out.size
      rcases hk with (hk | hk) | hk
      ·exact .inl hk
      ·exact .inr ⟨hk.1, by omega⟩
      ·exact .inr ⟨by omega, hk.2⟩
    case measure => rw [hw64]; exact HAM.out
   ·have d5 : (y == 0) = false := beq_eq_false_iff_ne.mpr cy
    have hres := HRR.out.2 cy
    have HRES := Lib.hid hres
    clear hres hlt hz hdr hrow HRR hm hf hm0
    go_wp2
    go_roundw
    case rel => exact ⟨j + 1, E, y, z, rfl, rfl, by first | (with_reducible rfl) | (rw [hw64]), HAJ.out, fun hy => absurd hy cy, HLT.out.2, Lib.hid ⟨fun hy => absurd hy cy, fun _ => HRES.out⟩, HSE, HQE, HME⟩
    case measure => rw [hw64]; exact HAM.out
def tr_wipe (D : Dv) (f : Int) : Nat → Int → Dv × Int
 | 0, _ => (D, 0)
 | k + 1, i => if (dv_has D (f + i)).toList = (tr_zeros 64).toList then tr_wipe D f k (i + 1) else if (dv_write D (f + i) (tr_zeros 64)).2 = 0 then tr_wipe (dv_write D (f + i) (tr_zeros 64)).1 f k (i + 1) else dv_write D (f + i) (tr_zeros 64)
theorem tr_write_len (D : Dv) (a : Int) (s : ByteArray) : (dv_write D a s).1.b.length = D.b.length := by
 unfold dv_write
 split
 ·split
  ·rfl
  ·split
   ·rfl
   ·unfold dv_asks
    split <;> rfl
 ·rfl
set_option maxHeartbeats 4000000 in
set_option maxRecDepth 100000 in
theorem tr_rWipe (P : Nat → Prop) (g : Nat) (D : Dv) (f m : Int) (w : World) (hP : ∀ k, P k → k < w.heap.size) (hq : DQ P g w D) (hs : tr_sane D) (hb : D.b.length ≤ 4096) (h : tr_in D.b.length f m) :
  Calls Tryd.prog 21 #[.agg #[.pointer (some ⟨g, 0, none⟩), .int .i64 f, .int .i64 m]] w fun e w' => e = .returned (.int .i64 (tr_wipe D f m.toNat 0).2) ∧ DQ (fun k => P k ∨ (w.heap.size ≤ k ∧ k < w'.heap.size)) g w' (tr_wipe D f m.toNat 0).1 ∧ Mv P w w' := by
 have hn := blk_new w (.cells #[.pointer (some ⟨g, 0, none⟩), .int .i64 f, .int .i64 m] 51)
 have hbl := below_alloc (Below.refl w.heap.size w) (.cells #[.pointer (some ⟨g, 0, none⟩), .int .i64 f, .int .i64 m] 51)
 have hm : m ≤ 4096 := by have := h.2.2.2; have := h.2.1; omega
 have hf : f ≤ 4096 ∧ 0 ≤ f := by have := h.2.2.1; have := h.2.1; omega
 have hm0 : 0 ≤ m := h.1
 have HIN := Lib.hid h
 have HN := Lib.hid hn
 have HB := Lib.hid hbl
 have HQ := Lib.hid hq
 have HP := Lib.hid hP
 have HS := Lib.hid hs
 have HBL := Lib.hid hb
 obtain ⟨R, hR⟩ : ∃ R, R = tr_wipe D f m.toNat 0 := ⟨_, rfl⟩
 rw [← hR]
 have HR := Lib.hid hR
 have HHM := Lib.hid (And.intro hm (And.intro hf hm0))
 have HREP : Hid (∀ W : World, Calls Tryd.prog 26 #[.string ⟨#[0]⟩, .int .i64 64] W (fun e w_ => e = .returned (.string (tr_zeros 64)) ∧ Below W.heap.size W w_)) := Lib.hid (fun W => Tryd.strings_Repeat ⟨#[0]⟩ 64 W (by omega) (by show 1 * 64 ≤ _; omega))
 clear hn hbl hq hP hs hb h hR
 obtain ⟨Z, hZ⟩ : ∃ Z, Z = tr_zeros 64 := ⟨_, rfl⟩
 rw [← hZ] at HREP
 have HZ := Lib.hid hZ
 clear hZ
 go_enter Tryd.func21, Tryd.ntmps21
 go_wp2_with (go_at_call 26; refine (HREP.out _).mono ?_; rintro e w3 ⟨rfl, hb3⟩; have HQ3 := Lib.hid ((HQ.out.below HB.out).below hb3); have HN3 := Lib.hid ((hb3.block _ (blk_lt HN.out)).trans HN.out); have HM3 := Lib.hid ((Mv.of_below HB.out P).below hb3); have HSZ3 := Lib.hid hb3.size; obtain ⟨w3x0, w3x1, w3x2⟩ := blk_cells3 HN3.out; clear hb3)
 go_loopw [9] (fun v9 W => ∃ (j : Nat) (E : Dv), v9 = .int .i64 (j : Int) ∧ (j : Int) ≤ m ∧ Hid (R = tr_wipe E f (m.toNat - j) (j : Int)) ∧ Hid (tr_sane E) ∧ Hid (E.b.length = D.b.length) ∧ Hid (DQ (fun k => P k ∨ (w3.heap.size ≤ k ∧ k < W.heap.size)) g W E) ∧ Hid (Mv P w3 W)) (fun v9 _ => (m - intOf v9).toNat)
 case atStart => exact ⟨0, D, rfl, hm0, Lib.hid (by rw [HR.out]; simp), HS, Lib.hid rfl, Lib.hid (HQ3.out.mono (fun k hk => .inl hk)), Lib.hid (Mv.refl _ _)⟩
 case round =>
  obtain ⟨j, E, rfl, hj, HRR, HSE, HLE, HQE, HME⟩ := hrel
  by_cases hlt : (j : Int) < m
  rotate_left
  ·have hres := HRR.out
   rw [show m.toNat - j = 0 by omega, tr_wipe] at hres
   subst hres
   have q1 : decide ((j : Int) < m) = false := decide_eq_false hlt
   go_wp2
   go_ret
   refine ⟨rfl, HQE.out.mono (fun k hk => hk.imp id (fun h => ⟨?_, h.2⟩)), HM3.out.then_ HME.out (fun k hk => .inl hk)⟩
   have := HSZ3.out
   have := HB.out.size
   omega
  ·have q1 : decide ((j : Int) < m) = true := decide_eq_true hlt
   have hnw : ¬ P w.heap.size := fun hp => by have := HP.out _ hp; omega
   obtain ⟨x0, x1, x2⟩ := blk_cells3 (HME.out.blk HN3.out hnw)
   have hw64 : wrap64 ((j : Int) + 1) = ((j + 1 : Nat) : Int) := by unfold wrap64; omega
   have hw5 : wrap64 (f + (j : Int)) = f + (j : Int) := by unfold wrap64; omega
   have hres := HRR.out
   rw [show m.toNat - j = (m.toNat - (j + 1)) + 1 by omega, tr_wipe, ← HZ.out] at hres
   have HAT := Lib.hid (tr_at g E f m (j : Int) wr HQE.out.toR (by rw [HLE.out]; exact HBL.out) (by rw [HLE.out]; exact HIN.out) (by omega) hlt)
   have HLT := Lib.hid hlt
   by_cases c : (dv_has E (f + (j : Int))).toList = Z.toList
   ·rw [if_pos c] at hres
    have c1 : ((dv_has E (f + (j : Int))).toList == Z.toList) = true := beq_iff_eq.mpr c
    have HRES := Lib.hid hres
    generalize dv_has E (f + (j : Int)) = bl at HAT c c1
    clear hres hj HRR c
    go_wp2_with (go_at_call 35; refine HAT.out.mono ?_; rintro e w4 ⟨rfl, hb4⟩; have HB4 := Lib.hid hb4; have HQ4 := Lib.hid (HQE.out.below hb4); have HM4 := Lib.hid (HME.out.below hb4); clear hb4)
    go_roundw
    case rel => exact ⟨j + 1, E, by first | (with_reducible rfl) | (rw [hw64]) | (simp; done), by clear hw5 hw64; have := HLT.out; omega, Lib.hid (by have hh := HRES.out; rw [show (j : Int) + 1 = ((j + 1 : Nat) : Int) by omega] at hh; exact hh), HSE, HLE, Lib.hid (HQ4.out.mono (fun k hk => hk.imp id (fun h => ⟨h.1, Nat.lt_of_lt_of_le h.2 HB4.out.size⟩))), HM4⟩
    case measure => have := HLT.out; (try rw [hw64]); simp only [intOf]; clear hw5 hw64; omega
   ·rw [if_neg c] at hres
    have c1 : ((dv_has E (f + (j : Int))).toList == Z.toList) = false := beq_eq_false_iff_ne.mpr c
    have HWR := Lib.hid (fun (W : World) (hb4 : Below wr.heap.size wr W) => dev_write _ g E (f + (j : Int)) Z W (fun k hk => hk.elim (fun hp => Nat.lt_of_lt_of_le (HP.out k hp) (Nat.le_trans HB.out.size (Nat.le_trans HSZ3.out (Nat.le_trans HME.out.size hb4.size)))) (fun h => Nat.lt_of_lt_of_le h.2 hb4.size)) (HQE.out.below hb4) HSE.out.1 HSE.out.2.1 (by have := HSE.out.2.2; omega))
    have hse := tr_sane_write HSE.out (f + (j : Int)) Z
    have hle := tr_write_len E (f + (j : Int)) Z
    have hre := hres
    generalize dv_has E (f + (j : Int)) = bl at HAT c c1
    generalize dv_write E (f + (j : Int)) Z = E2 at HWR hre hse hle
    obtain ⟨E2, y2⟩ := E2
    simp only at HWR hre hse hle
    have HSE2 := Lib.hid hse
    have HLE2 := Lib.hid (hle.trans HLE.out)
    have HRE := Lib.hid hre
    clear hres hre hse hle hj HRR c
    by_cases cy : y2 = 0
    ·subst cy
     go_wp2_with (first | (go_at_call 35; refine HAT.out.mono ?_; rintro e w4 ⟨rfl, hb4⟩; have HB4 := Lib.hid hb4; have HQ4 := Lib.hid (HQE.out.below hb4); have HM4 := Lib.hid (HME.out.below hb4); have z0 := pw_cell_below hb4 x0; have z1 := pw_cell_below hb4 x1; have z2 := pw_cell_below hb4 x2; have HW4 := Lib.hid (HWR.out w4 hb4); clear hb4) | (go_at_call 36; refine HW4.out.mono ?_; rintro e w5 ⟨rfl, hq5, hm5⟩; have HQ5 := Lib.hid hq5; have HM5 := Lib.hid hm5; clear hq5 hm5))
     go_roundw
     case rel =>
      refine ⟨j + 1, E2, by first | (with_reducible rfl) | (rw [hw64]) | (simp; done), by clear hw5 hw64; have := HLT.out; omega, Lib.hid (by have hh := HRE.out; rw [if_pos (by trivial), show (j : Int) + 1 = ((j + 1 : Nat) : Int) by omega] at hh; exact hh), HSE2, HLE2, Lib.hid (HQ5.out.mono (fun k hk => ?_)), Lib.hid (HM4.out.then_ HM5.out (fun k hk => hk.imp id (fun h => h.1)))⟩
      clear hw5 hw64
      have h4 := HB4.out.size
      have h5 := HM5.out.size
      have h6 := HME.out.size
      rcases hk with (hk | hk) | hk
      ·exact .inl hk
      ·exact .inr ⟨hk.1, by omega⟩
      ·exact .inr ⟨by omega, hk.2⟩
     case measure => have := HLT.out; (try rw [hw64]); simp only [intOf]; clear hw5 hw64; omega
    ·have hre := HRE.out
     rw [if_neg cy] at hre
     subst hre
     have d5 : (y2 != 0) = true := bne_iff_ne.mpr cy
     go_wp2_with (first | (go_at_call 35; refine HAT.out.mono ?_; rintro e w4 ⟨rfl, hb4⟩; have HB4 := Lib.hid hb4; have HQ4 := Lib.hid (HQE.out.below hb4); have HM4 := Lib.hid (HME.out.below hb4); have z0 := pw_cell_below hb4 x0; have z1 := pw_cell_below hb4 x1; have z2 := pw_cell_below hb4 x2; have HW4 := Lib.hid (HWR.out w4 hb4); clear hb4) | (go_at_call 36; refine HW4.out.mono ?_; rintro e w5 ⟨rfl, hq5, hm5⟩; have HQ5 := Lib.hid hq5; have HM5 := Lib.hid hm5; clear hq5 hm5))
     go_ret
     clear hw5 hw64
     have h3 := HSZ3.out
     have hb0 := HB.out.size
     have h4 := HB4.out.size
     have h5 := HM5.out.size
     have h6 := HME.out.size
     refine ⟨rfl, HQ5.out.mono (fun k hk => ?_), HM3.out.then_ (HM4.out.then_ HM5.out (fun k hk => hk.imp id (fun h => h.1))) (fun k hk => .inl hk)⟩
     rcases hk with (hk | hk) | hk
     ·exact .inl hk
     ·exact .inr ⟨by omega, by omega⟩
     ·exact .inr ⟨by omega, hk.2⟩
def tr_open (D : Dv) (f m : Int) : Int := if dv_open D = 0 then if tr_in D.b.length f m then 0 else 1 else dv_open D
def tr_reg (g : Nat) (f m : Int) : Value := .agg #[.pointer (some ⟨g, 0, none⟩), .int .i64 f, .int .i64 m]
def tr_zero : Value := .agg #[.pointer none, .int .i64 0, .int .i64 0]
theorem tr_run_store {P : Program} {oi : Oper} {a : Act} {w : World} (ty : TypeId) (x y : Operand) (ho : oi.op = .store ty x y) (g : Nat) (cur cells : Array Value) (t : TypeId)
  (hx : a.eval x = .pointer (some ⟨g, 0, none⟩)) (hy : a.eval y = .agg cells) (hg : w.heap[g]? = some (.cells cur t (0, 0))) (hsz : cur.size = cells.size)
  (hi : (P.info? ty).map (·.size) = some cells.size) (h1 : ∀ v ∈ cells.toList, v.oneCell' = true) : (execOp a.eval oi).run P w = .ok .skip (w.setRow g cells) := by
 have hs := run_storeCells_at (P := P) g 0 t cells.toList 0 cur w hg (by simp; omega) h1
 have hcur : (List.take (0 + 0) cur.toList ++ cells.toList ++ List.drop (0 + 0 + cells.toList.length) cur.toList).toArray = cells := by
  rw [List.drop_eq_nil_of_le (by simp; omega)]; simp
 rw [hcur] at hs
 cases hq : P.info? ty with
 | none => simp [hq] at hi
 | some i =>
  have hs2 : cells.size = i.size := by simp [hq] at hi; omega
  unfold execOp
  simp only [ho, hx, hy, Instr.storeAt, Instr.sureAddr, Sem.run_bind, Sem.run_pure, Result.andThen_ok]
  simp [storeVar, sizeOf, typeInfo, hq, Value.cells, hs2, hs]
set_option maxHeartbeats 2000000 in
set_option maxRecDepth 100000 in
theorem tr_opens (A1 : Option Addr) (c1 : Nat) (A2 : Option Addr) (c2 : Nat) (D : Dv) (f m : Int) (w : World) (hC1 : Kd.C Kd.string w A1 D.b.length D.b) (hl1 : D.b.length ≤ c1) (hC2 : Kd.C k60 w A2 D.w.length D.w) (hl2 : D.w.length ≤ c2) (hfit : dv_fit D) :
  Calls Tryd.prog 20 #[.agg #[.slice A1 D.b.length c1, .slice A2 D.w.length c2, .int .i64 D.f, .bool D.d], .int .i64 f, .int .i64 m] w fun e w' => ∃ g, e = .returned (.tuple #[.pointer (some ⟨g, 0, none⟩), if tr_open D f m = 0 then tr_reg g f m else tr_zero, .int .i64 (tr_open D f m)]) ∧ DQ (fun k => w.heap.size ≤ k ∧ k < w'.heap.size) g w' (if dv_check D = 0 then D else dv_zero) ∧ Below w.heap.size w w' := by
 have hu := Tryd.underlying56
 have hu2 := Tryd.underlying25
 have hb := below_alloc (below_alloc (Below.refl w.heap.size w) (.cells #[.slice A1 D.b.length c1, .slice A2 D.w.length c2, .int .i64 D.f, .bool D.d] 25)) (.cells #[.pointer none, .int .i64 0, .int .i64 0] 51)
 have hn := blk_new (w.alloc (.cells #[.slice A1 D.b.length c1, .slice A2 D.w.length c2, .int .i64 D.f, .bool D.d] 25)) (.cells #[.pointer none, .int .i64 0, .int .i64 0] 51)
 rw [World.size_alloc] at hn
 have HO := Lib.hid (dev_open A1 c1 A2 c2 D _ (Kd.C_below hC1 hb) hl1 (Kd.C_below hC2 hb) hl2 hfit)
 have HB := Lib.hid hb
 have HN := Lib.hid hn
 clear hC1 hC2 hb hn
 unfold tr_open tr_zero
 by_cases c : dv_open D = 0
 rotate_left
 ·simp only [if_neg c]
  generalize (if dv_check D = 0 then D else dv_zero) = E at HO ⊢
  generalize dv_open D = r at HO c ⊢
  have d : (r != 0) = true := bne_iff_ne.mpr c
  go_enter Tryd.func20, Tryd.ntmps20
  go_wp2_with (first | (go_at_call 24; refine HO.out.mono ?_; rintro e w3 ⟨g, rfl, hq3, hb3⟩; have HQ3 := Lib.hid hq3; have HB3 := Lib.hid (below_then HB.out HB.out.size hb3); have HCUR := Lib.hid ((hb3.block _ (blk_lt HN.out)).trans HN.out); clear hb3 hq3) | (refine keys_store_row rfl 51 (.tmp 7) (.tmp 20) rfl (w.heap.size + 1) _ #[.pointer none, .int .i64 0, .int .i64 0] 51 rfl rfl HCUR.out rfl (by kernel_rfl) (by intro v hv; simp at hv; rcases hv with rfl | rfl <;> rfl) ?_))
  have o1 := setRow_heap w3 (w.heap.size + 1) _ #[.pointer none, .int .i64 0, .int .i64 0] 51 _ HCUR.out
  obtain ⟨x0, x1, x2⟩ := blk_cells3 o1
  have hq4 : DQ (fun k => w.heap.size ≤ k ∧ k < w3.heap.size) g (w3.setRow (w.heap.size + 1) #[.pointer none, .int .i64 0, .int .i64 0]) E := (HQ3.out.mono (S := fun k => w.heap.size + 1 < k ∧ k < w3.heap.size) (fun k hk => ⟨by have := hk.1; simp only [World.size_alloc] at this; omega, hk.2⟩)).moved (fun k hk hlt => setRow_other w3 (w.heap.size + 1) k _ (by omega)) |>.mono (fun k hk => ⟨by omega, hk.2⟩)
  refine bodyPost_ret (v := .tuple #[.pointer (some ⟨g, 0, none⟩), .agg #[.pointer none, .int .i64 0, .int .i64 0], .int .i64 r]) (by simp [results, Tryd.results20, go_sem, x0, x1, x2]) rfl ⟨g, rfl, by simpa using hq4, keys_below_setRow HB3.out (by omega) _⟩
 ·simp only [if_pos c]
  have hch := dv_open_zero c
  have hb4096 : D.b.length ≤ 4096 := by
   have := dv_check_ok hch
   unfold dv_ok at this
   simp only [Bool.and_eq_true, decide_eq_true_eq] at this
   exact this.1
  rw [if_pos hch, c] at HO
  simp only [if_pos hch]
  clear c hch
  by_cases hin : tr_in D.b.length f m
  ·simp only [if_pos hin, if_true]
   go_enter Tryd.func20, Tryd.ntmps20
   go_upto_region 5 with (first | (go_at_call 24; refine HO.out.mono ?_; rintro e w3 ⟨g, rfl, hq3, hb3⟩; have HQ3 := Lib.hid hq3; have HB3 := Lib.hid (below_then HB.out HB.out.size hb3); have HCUR := Lib.hid ((hb3.block _ (blk_lt HN.out)).trans HN.out); have HI := Lib.hid (tr_In_yes g D f m w3 hq3.toR hb4096 hin); have HSZ3 := Lib.hid hb3.size; clear hb3 hq3) | (go_at_call 34; refine HI.out.mono ?_; rintro e w4 ⟨rfl, hb4⟩; have hn4 := blk_new w4 (.cells #[.pointer none, .int .i64 0, .int .i64 0] 51); have HN4 := Lib.hid hn4; have hb5 := below_alloc hb4 (.cells #[.pointer none, .int .i64 0, .int .i64 0] 51); have HB5 := Lib.hid hb5; have HB4S := Lib.hid hb4.size; clear hb4 hb5 hn4) | (refine keys_store_row rfl 51 (.tmp 11) (.tmp 27) rfl (w4.heap.size) _ #[.pointer (some ⟨g, 0, none⟩), .int .i64 f, .int .i64 m] 51 rfl rfl HN4.out rfl (by kernel_rfl) (by intro v hv; simp at hv; rcases hv with rfl | rfl | rfl <;> rfl) ?_))
   have o4 := setRow_heap (w4.alloc (.cells #[.pointer none, .int .i64 0, .int .i64 0] 51)) w4.heap.size _ #[.pointer (some ⟨g, 0, none⟩), .int .i64 f, .int .i64 m] 51 _ HN4.out
   have hB6 : Below w3.heap.size w3 ((w4.alloc (.cells #[.pointer none, .int .i64 0, .int .i64 0] 51)).setRow w4.heap.size #[.pointer (some ⟨g, 0, none⟩), .int .i64 f, .int .i64 m]) := keys_below_setRow HB5.out HB4S.out _
   have hs4 := HB4S.out
   generalize (w4.alloc (.cells #[.pointer none, .int .i64 0, .int .i64 0] 51)).setRow w4.heap.size #[.pointer (some ⟨g, 0, none⟩), .int .i64 f, .int .i64 m] = w6 at o4 hB6 ⊢
   obtain ⟨q, hq⟩ : ∃ q, q = w4.heap.size := ⟨_, rfl⟩
   rw [← hq] at o4 hs4 ⊢
   obtain ⟨x0, x1, x2⟩ := blk_cells3 o4
   have hlt7 : w.heap.size + 1 < w3.heap.size := blk_lt HCUR.out
   have hrow7 := (hB6.block _ hlt7).trans HCUR.out
   have hq6 := HQ3.out.below hB6
   have hB7 : Below w.heap.size w w6 := below_then HB3.out HB3.out.size hB6
   have HX := Lib.hid (And.intro hq6 (And.intro hB7 (And.intro hs4 (And.intro hlt7 hB6.size))))
   have HROW7 := Lib.hid hrow7
   have HSW := Lib.hid (show w.heap.size + 2 ≤ w3.heap.size by have := HSZ3.out; simp only [World.size_alloc] at this; omega)
   clear hq6 hB7 hs4 hlt7 hB6 hrow7 o4 hq
   have mixed : Tryd.prog.follows Departure.mixedOrders = true := by kernel_rfl
   refine start_ (n := 6) (S := fun w' => w'.cell? ⟨q, 0, none⟩ = some (.pointer (some ⟨g, 0, none⟩)) ∧ w'.cell? ⟨q, 1, none⟩ = some (.int .i64 f) ∧ w'.cell? ⟨q, 2, none⟩ = some (.int .i64 m)) (ds := [4]) #[false, false, false, false, false, false] (by kernel_rfl) rfl rfl (⟨x0, x1, x2⟩) (fun hHeld => ?_)
   refine pure_ (i := 0) (N := some 29) (v := ?_) (a' := ?_) #[true, false, false, false, false, false] rfl rfl (by kernel_rfl) (fun _ _ _ h => h) (Or.inl ⟨by rfl, ?_⟩) ?_ ?_
   rotate_left
   ·intro w'
    go_simp
    with_reducible rfl
   rotate_left
   ·simp only [Act.put, List.setIfInBounds_toArray, List.set_cons_zero, List.set_cons_succ, i64_w, i32_w]
    rfl
   refine take_ (i := 1) (N := some 30) (v := ?_) (a' := ?_) #[true, true, false, false, false, false] rfl rfl (by kernel_rfl) (fun _ _ _ h => h) (Or.inl ⟨by rfl, ?_⟩) hHeld ?_ ?_
   rotate_left
   ·rintro w' ⟨s0, s1, s2⟩
    go_simp
    with_reducible rfl
   rotate_left
   ·simp only [Act.put, List.setIfInBounds_toArray, List.set_cons_zero, List.set_cons_succ, i64_w, i32_w]
    rfl
   refine pure_ (i := 2) (N := some 31) (v := ?_) (a' := ?_) #[true, true, true, false, false, false] rfl rfl (by kernel_rfl) (fun _ _ _ h => h) (Or.inl ⟨by rfl, ?_⟩) ?_ ?_
   rotate_left
   ·intro w'
    go_simp
    with_reducible rfl
   rotate_left
   ·simp only [Act.put, List.setIfInBounds_toArray, List.set_cons_zero, List.set_cons_succ, i64_w, i32_w]
    rfl
   refine pure_ (i := 3) (N := some 6) (v := ?_) (a' := ?_) #[true, true, true, true, false, false] rfl rfl (by kernel_rfl) (fun _ _ _ h => h) (Or.inl ⟨by rfl, ?_⟩) ?_ ?_
   rotate_left
   ·intro w'
    go_simp
    with_reducible rfl
   rotate_left
   ·simp only [Act.put, List.setIfInBounds_toArray, List.set_cons_zero, List.set_cons_succ, i64_w, i32_w]
    rfl
   refine last_ (i := 4) (N := none) #[true, true, true, true, true, false] rfl rfl (by kernel_rfl) (by decide) (fun K hK => ?_)
   refine skip_ (w1 := w6.drew.setRow (w.heap.size + 1) #[.pointer (some ⟨g, 0, none⟩), .int .i64 f, .int .i64 m]) (by rfl) rfl (tr_run_store 51 (.tmp 7) (.tmp 30) rfl (w.heap.size + 1) #[.pointer none, .int .i64 0, .int .i64 0] #[.pointer (some ⟨g, 0, none⟩), .int .i64 f, .int .i64 m] 51 rfl rfl HROW7.out rfl (by kernel_rfl) (by intro v hv; simp at hv; rcases hv with rfl | rfl | rfl <;> rfl)) ?_
   refine hK.out _ _ ?_
   clear hK K
   refine pure_ (i := 5) (N := some 8) (v := ?_) (a' := ?_) #[true, true, true, true, true, true] rfl rfl (by kernel_rfl) (fun _ _ _ h => h) (Or.inl ⟨by rfl, ?_⟩) ?_ ?_
   rotate_left
   ·intro w'
    go_simp
    with_reducible rfl
   rotate_left
   ·simp only [Act.put, List.setIfInBounds_toArray, List.set_cons_zero, List.set_cons_succ, i64_w, i32_w]
    rfl
   refine done_ (by kernel_rfl) ?_
   go_wp2
   have o1 := setRow_heap w6.drew (w.heap.size + 1) _ #[.pointer (some ⟨g, 0, none⟩), .int .i64 f, .int .i64 m] 51 _ (show w6.drew.heap[w.heap.size + 1]? = _ from HROW7.out)
   obtain ⟨y0, y1, y2⟩ := blk_cells3 o1
   obtain ⟨z1, z2, z3, z4, z5⟩ := HX.out
   have hq8 : DQ (fun k => w.heap.size ≤ k ∧ k < (w6.drew.setRow (w.heap.size + 1) #[.pointer (some ⟨g, 0, none⟩), .int .i64 f, .int .i64 m]).heap.size) g (w6.drew.setRow (w.heap.size + 1) #[.pointer (some ⟨g, 0, none⟩), .int .i64 f, .int .i64 m]) D := ((z1.mono (S := fun k => w.heap.size + 1 < k ∧ k < w3.heap.size) (fun k hk => ⟨by have := hk.1; simp only [World.size_alloc] at this; omega, hk.2⟩)).moved (w' := w6.drew.setRow (w.heap.size + 1) #[.pointer (some ⟨g, 0, none⟩), .int .i64 f, .int .i64 m]) (fun k hk hlt => setRow_other w6.drew (w.heap.size + 1) k _ (by omega))).mono (fun k hk => ⟨by omega, by have : (w6.drew.setRow (w.heap.size + 1) #[.pointer (some ⟨g, 0, none⟩), .int .i64 f, .int .i64 m]).heap.size = w6.heap.size := (by simp); omega⟩)
   refine bodyPost_ret (v := .tuple #[.pointer (some ⟨g, 0, none⟩), .agg #[.pointer (some ⟨g, 0, none⟩), .int .i64 f, .int .i64 m], .int .i64 0]) (by simp [results, Tryd.results20, go_sem, y0, y1, y2]) rfl ⟨g, rfl, hq8, keys_below_setRow (below_drew1 z2) (by omega) _⟩
  ·simp only [if_neg hin]
   go_enter Tryd.func20, Tryd.ntmps20
   go_upto_region 5 with (first | (go_at_call 24; refine HO.out.mono ?_; rintro e w3 ⟨g, rfl, hq3, hb3⟩; have HQ3 := Lib.hid hq3; have HB3 := Lib.hid (below_then HB.out HB.out.size hb3); have HCUR := Lib.hid ((hb3.block _ (blk_lt HN.out)).trans HN.out); have HI := Lib.hid (tr_In_no g D f m w3 hq3.toR hb4096 hin); have HSZ3 := Lib.hid hb3.size; clear hb3 hq3) | (go_at_call 34; refine HI.out.mono ?_; rintro e w4 ⟨rfl, hb4⟩; have hn4 := blk_new w4 (.cells #[.pointer none, .int .i64 0, .int .i64 0] 51); have HN4 := Lib.hid hn4; have hb5 := below_alloc hb4 (.cells #[.pointer none, .int .i64 0, .int .i64 0] 51); have HB5 := Lib.hid hb5; have HB4S := Lib.hid hb4.size; clear hb4 hb5 hn4) | (refine keys_store_row rfl 51 (.tmp 11) (.tmp 27) rfl (w4.heap.size) _ #[.pointer none, .int .i64 0, .int .i64 0] 51 rfl rfl HN4.out rfl (by kernel_rfl) (by intro v hv; simp at hv; rcases hv with rfl | rfl <;> rfl) ?_))
   have o4 := setRow_heap (w4.alloc (.cells #[.pointer none, .int .i64 0, .int .i64 0] 51)) w4.heap.size _ #[.pointer none, .int .i64 0, .int .i64 0] 51 _ HN4.out
   have hB6 : Below w3.heap.size w3 ((w4.alloc (.cells #[.pointer none, .int .i64 0, .int .i64 0] 51)).setRow w4.heap.size #[.pointer none, .int .i64 0, .int .i64 0]) := keys_below_setRow HB5.out HB4S.out _
   have hs4 := HB4S.out
   generalize (w4.alloc (.cells #[.pointer none, .int .i64 0, .int .i64 0] 51)).setRow w4.heap.size #[.pointer none, .int .i64 0, .int .i64 0] = w6 at o4 hB6 ⊢
   obtain ⟨q, hq⟩ : ∃ q, q = w4.heap.size := ⟨_, rfl⟩
   rw [← hq] at o4 hs4 ⊢
   obtain ⟨x0, x1, x2⟩ := blk_cells3 o4
   have hlt7 : w.heap.size + 1 < w3.heap.size := blk_lt HCUR.out
   have hrow7 := (hB6.block _ hlt7).trans HCUR.out
   have hq6 := HQ3.out.below hB6
   have hB7 : Below w.heap.size w w6 := below_then HB3.out HB3.out.size hB6
   have HX := Lib.hid (And.intro hq6 (And.intro hB7 (And.intro hs4 (And.intro hlt7 hB6.size))))
   have HROW7 := Lib.hid hrow7
   have HSW := Lib.hid (show w.heap.size + 2 ≤ w3.heap.size by have := HSZ3.out; simp only [World.size_alloc] at this; omega)
   clear hq6 hB7 hs4 hlt7 hB6 hrow7 o4 hq
   have mixed : Tryd.prog.follows Departure.mixedOrders = true := by kernel_rfl
   refine start_ (n := 6) (S := fun w' => w'.cell? ⟨q, 0, none⟩ = some (.pointer none) ∧ w'.cell? ⟨q, 1, none⟩ = some (.int .i64 0) ∧ w'.cell? ⟨q, 2, none⟩ = some (.int .i64 0)) (ds := [4]) #[false, false, false, false, false, false] (by kernel_rfl) rfl rfl (⟨x0, x1, x2⟩) (fun hHeld => ?_)
   refine pure_ (i := 0) (N := some 29) (v := ?_) (a' := ?_) #[true, false, false, false, false, false] rfl rfl (by kernel_rfl) (fun _ _ _ h => h) (Or.inl ⟨by rfl, ?_⟩) ?_ ?_
   rotate_left
   ·intro w'
    go_simp
    with_reducible rfl
   rotate_left
   ·simp only [Act.put, List.setIfInBounds_toArray, List.set_cons_zero, List.set_cons_succ, i64_w, i32_w]
    rfl
   refine take_ (i := 1) (N := some 30) (v := ?_) (a' := ?_) #[true, true, false, false, false, false] rfl rfl (by kernel_rfl) (fun _ _ _ h => h) (Or.inl ⟨by rfl, ?_⟩) hHeld ?_ ?_
   rotate_left
   ·rintro w' ⟨s0, s1, s2⟩
    go_simp
    with_reducible rfl
   rotate_left
   ·simp only [Act.put, List.setIfInBounds_toArray, List.set_cons_zero, List.set_cons_succ, i64_w, i32_w]
    rfl
   refine pure_ (i := 2) (N := some 31) (v := ?_) (a' := ?_) #[true, true, true, false, false, false] rfl rfl (by kernel_rfl) (fun _ _ _ h => h) (Or.inl ⟨by rfl, ?_⟩) ?_ ?_
   rotate_left
   ·intro w'
    go_simp
    with_reducible rfl
   rotate_left
   ·simp only [Act.put, List.setIfInBounds_toArray, List.set_cons_zero, List.set_cons_succ, i64_w, i32_w]
    rfl
   refine pure_ (i := 3) (N := some 6) (v := ?_) (a' := ?_) #[true, true, true, true, false, false] rfl rfl (by kernel_rfl) (fun _ _ _ h => h) (Or.inl ⟨by rfl, ?_⟩) ?_ ?_
   rotate_left
   ·intro w'
    go_simp
    with_reducible rfl
   rotate_left
   ·simp only [Act.put, List.setIfInBounds_toArray, List.set_cons_zero, List.set_cons_succ, i64_w, i32_w]
    rfl
   refine last_ (i := 4) (N := none) #[true, true, true, true, true, false] rfl rfl (by kernel_rfl) (by decide) (fun K hK => ?_)
   refine skip_ (w1 := w6.drew.setRow (w.heap.size + 1) #[.pointer none, .int .i64 0, .int .i64 0]) (by rfl) rfl (tr_run_store 51 (.tmp 7) (.tmp 30) rfl (w.heap.size + 1) #[.pointer none, .int .i64 0, .int .i64 0] #[.pointer none, .int .i64 0, .int .i64 0] 51 rfl rfl HROW7.out rfl (by kernel_rfl) (by intro v hv; simp at hv; rcases hv with rfl | rfl <;> rfl)) ?_
   refine hK.out _ _ ?_
   clear hK K
   refine pure_ (i := 5) (N := some 8) (v := ?_) (a' := ?_) #[true, true, true, true, true, true] rfl rfl (by kernel_rfl) (fun _ _ _ h => h) (Or.inl ⟨by rfl, ?_⟩) ?_ ?_
   rotate_left
   ·intro w'
    go_simp
    with_reducible rfl
   rotate_left
   ·simp only [Act.put, List.setIfInBounds_toArray, List.set_cons_zero, List.set_cons_succ, i64_w, i32_w]
    rfl
   refine done_ (by kernel_rfl) ?_
   go_wp2
   have o1 := setRow_heap w6.drew (w.heap.size + 1) _ #[.pointer none, .int .i64 0, .int .i64 0] 51 _ (show w6.drew.heap[w.heap.size + 1]? = _ from HROW7.out)
   obtain ⟨y0, y1, y2⟩ := blk_cells3 o1
   obtain ⟨z1, z2, z3, z4, z5⟩ := HX.out
   have hq8 : DQ (fun k => w.heap.size ≤ k ∧ k < (w6.drew.setRow (w.heap.size + 1) #[.pointer none, .int .i64 0, .int .i64 0]).heap.size) g (w6.drew.setRow (w.heap.size + 1) #[.pointer none, .int .i64 0, .int .i64 0]) D := ((z1.mono (S := fun k => w.heap.size + 1 < k ∧ k < w3.heap.size) (fun k hk => ⟨by have := hk.1; simp only [World.size_alloc] at this; omega, hk.2⟩)).moved (w' := w6.drew.setRow (w.heap.size + 1) #[.pointer none, .int .i64 0, .int .i64 0]) (fun k hk hlt => setRow_other w6.drew (w.heap.size + 1) k _ (by omega))).mono (fun k hk => ⟨by omega, by have : (w6.drew.setRow (w.heap.size + 1) #[.pointer none, .int .i64 0, .int .i64 0]).heap.size = w6.heap.size := (by simp); omega⟩)
   refine bodyPost_ret (v := .tuple #[.pointer (some ⟨g, 0, none⟩), .agg #[.pointer none, .int .i64 0, .int .i64 0], .int .i64 1]) (by simp [results, Tryd.results20, go_sem, y0, y1, y2]) rfl ⟨g, rfl, hq8, keys_below_setRow (below_drew1 z2) (by omega) _⟩
def trail_Blocks.f (a0 : ByteArray) : Option (Int × Int) := (sum_Frame.f a0).bind fun q => if q.1.size ≤ 1000000 then some (((if q.2 = 0 then tr_cut q.1 else []).length : Int), q.2) else none
set_option maxHeartbeats 1000000 in
set_option maxRecDepth 100000 in
theorem trail_Blocks.calls (a0 : ByteArray) (r1 : Int) (r2 : Int) (w : World) (h : trail_Blocks.f a0 = some (r1, r2)) :
  Calls Tryd.prog 19 #[.string a0] w fun e w' => e = .returned (.tuple #[.int .i64 r1, .int .i64 r2]) ∧ Below w.heap.size w w' := by
 unfold trail_Blocks.f at h
 obtain ⟨q, hq, h⟩ := Option.bind_eq_some_iff.mp h
 obtain ⟨F, why⟩ := q
 split at h
 rotate_left
 ·cases h
 rename_i hF
 simp only [Option.some.injEq, Prod.mk.injEq] at h
 obtain ⟨rfl, rfl⟩ := h
 have HFR := Lib.hid (tr_frame a0 F why hq hF w)
 clear hq hF
 generalize (if why = 0 then tr_cut F else []) = l at HFR ⊢
 go_enter Tryd.func19, Tryd.ntmps19
 go_wp2_with (go_at_call 33; refine HFR.out.mono ?_; rintro e w3 ⟨v8, rfl, ht3, ho3, hb3⟩; obtain ⟨A8, c8, rfl, hc8⟩ := ht3.slice; have HB3 := Lib.hid hb3; clear ht3 ho3 hb3)
 go_ret2
 exact ⟨rfl, HB3.out⟩
theorem tr_has_size {D : Dv} (h : dv_check D = 0) {a : Int} (h0 : 0 ≤ a) (h1 : a < (D.b.length : Int)) : (dv_has D a).size = 64 := by
 have hok := dv_check_ok h
 unfold dv_ok dv_okw at hok
 simp only [Bool.and_eq_true, decide_eq_true_eq, List.all_eq_true, beq_iff_eq] at hok
 obtain ⟨_, _, _, hb, hw⟩ := hok
 unfold dv_has
 split
 ·rename_i x hx
  exact (hw x (by have := List.mem_of_find?_eq_some hx; simpa using this)).2.2
 ·have hlt : a.toNat < D.b.length := by omega
  rw [List.getD_eq_getElem?_getD, List.getElem?_eq_getElem hlt]
  exact hb _ (List.getElem_mem hlt)
theorem tr_ok_len {D : Dv} (h : dv_check D = 0) : D.b.length ≤ 4096 := by
 have := dv_check_ok h
 unfold dv_ok at this
 simp only [Bool.and_eq_true, decide_eq_true_eq] at this
 exact this.1
theorem tr_open_zero {D : Dv} {f m : Int} (h : tr_open D f m = 0) : dv_open D = 0 ∧ tr_in D.b.length f m := by
 unfold tr_open at h
 split at h
 ·rename_i h1
  refine ⟨h1, ?_⟩
  split at h
  ·assumption
  ·cases h
 ·rename_i h1; exact absurd h h1
def tr_Read (D : Dv) (f m : Int) : Option (List ByteArray × Int × Int) := if tr_open D f m = 0 then (tr_recs D f m (m.toNat + 1) 0).map (fun q => (q.1, q.2, 0)) else some ([], 0, tr_open D f m)
def trail_Read.f (l0_0 : List ByteArray) (l0_1 : List (S60)) (a0_2 : Int) (a0_3 : Bool) (a1 : Int) (a2 : Int) : Option (List ByteArray × Int × Int) := if dv_fit ⟨l0_0, l0_1, a0_2, a0_3⟩ then tr_Read ⟨l0_0, l0_1, a0_2, a0_3⟩ a1 a2 else none
set_option maxHeartbeats 2000000 in
set_option maxRecDepth 100000 in
theorem trail_Read.calls (A0_0 : Option Addr) (c0_0 : Nat) (l0_0 : List ByteArray) (A0_1 : Option Addr) (c0_1 : Nat) (l0_1 : List (S60)) (a0_2 : Int) (a0_3 : Bool) (a1 : Int) (a2 : Int) (r1 : List ByteArray) (r2 : Int) (r3 : Int) (w : World) (hr0_0 : Kd.C Kd.string w A0_0 l0_0.length l0_0) (hc0_0 : l0_0.length ≤ c0_0) (hr0_1 : Kd.C k60 w A0_1 l0_1.length l0_1) (hc0_1 : l0_1.length ≤ c0_1) (h : trail_Read.f l0_0 l0_1 a0_2 a0_3 a1 a2 = some (r1, r2, r3)) :
  Calls Tryd.prog 9 #[.agg #[.slice A0_0 l0_0.length c0_0, .slice A0_1 l0_1.length c0_1, .int .i64 a0_2, .bool a0_3], .int .i64 a1, .int .i64 a2] w fun e w' => ∃ v0_ : Value, e = .returned (.tuple #[v0_, .int .i64 r2, .int .i64 r3]) ∧ Kd.V Kd.string 9 w' w.heap.size (fun k_ => (w.heap.size ≤ k_)) v0_ r1 ∧ Below w.heap.size w w' := by
 have hu := Tryd.underlying56
 have hu2 := Tryd.underlying25
 unfold trail_Read.f at h
 obtain ⟨D, hD⟩ : ∃ D : Dv, D = ⟨l0_0, l0_1, a0_2, a0_3⟩ := ⟨_, rfl⟩
 rw [← hD] at h
 obtain ⟨rfl, rfl, rfl, rfl⟩ : l0_0 = D.b ∧ l0_1 = D.w ∧ a0_2 = D.f ∧ a0_3 = D.d := by rw [hD]; exact ⟨rfl, rfl, rfl, rfl⟩
 clear hD
 split at h
 rotate_left
 ·cases h
 rename_i hfit
 have hb := below_alloc (Below.refl w.heap.size w) (.cells #[.slice A0_0 D.b.length c0_0, .slice A0_1 D.w.length c0_1, .int .i64 D.f, .bool D.d] 25)
 have HO := Lib.hid (tr_opens A0_0 c0_0 A0_1 c0_1 D a1 a2 _ (Kd.C_below hr0_0 hb) hc0_0 (Kd.C_below hr0_1 hb) hc0_1 hfit)
 have HB := Lib.hid hb
 clear hr0_0 hr0_1 hb
 unfold tr_Read at h
 by_cases c : tr_open D a1 a2 = 0
 rotate_left
 ·rw [if_neg c] at h
  simp only [Option.some.injEq, Prod.mk.injEq] at h
  obtain ⟨rfl, rfl, rfl⟩ := h
  simp only [if_neg c] at HO
  generalize tr_open D a1 a2 = r at HO c ⊢
  unfold tr_zero at HO
  have d : (r != 0) = true := bne_iff_ne.mpr c
  go_enter Tryd.func9, Tryd.ntmps9
  go_wp2_with (first | (go_at_call 20; refine HO.out.mono ?_; rintro e w3 ⟨g, rfl, hq3, hb3⟩; have HB3 := Lib.hid (below_then HB.out HB.out.size hb3); have HN3 := Lib.hid (blk_new w3 (.cells #[.pointer none, .int .i64 0, .int .i64 0] 51)); clear hb3 hq3) | (refine keys_store_row rfl 51 (.tmp 10) (.tmp 20) rfl (w3.heap.size) _ #[.pointer none, .int .i64 0, .int .i64 0] 51 rfl rfl HN3.out rfl (by kernel_rfl) (by intro v hv; simp at hv; rcases hv with rfl | rfl <;> rfl) ?_))
  refine bodyPost_ret (v := .tuple #[.slice none 0 0, .int .i64 0, .int .i64 r]) (by simp [results, Tryd.results9, go_sem]) rfl ⟨_, rfl, Kd.V_nil _ _ _ _ _, keys_below_setRow (below_alloc HB3.out _) HB3.out.size _⟩
 ·rw [if_pos c] at h
  obtain ⟨q, hq, he⟩ := Option.map_eq_some_iff.mp h
  obtain ⟨L, U⟩ := q
  simp only [Prod.mk.injEq] at he
  obtain ⟨rfl, rfl, rfl⟩ := he
  obtain ⟨ho, hin⟩ := tr_open_zero c
  have hch := dv_open_zero ho
  simp only [if_pos c, if_pos hch, c] at HO
  unfold tr_reg at HO
  have HREC := Lib.hid (fun (g : Nat) (W : World) (hD : DR W g D) => tr_Records g D a1 a2 (a2.toNat + 1) L U W hD (tr_ok_len hch) hin (fun p h0 h1 => tr_has_size hch (by have := hin.2.1; omega) (by have := hin.2.2.2; omega)) hq)
  clear h hq c ho hch hin hfit
  go_enter Tryd.func9, Tryd.ntmps9
  go_wp2_with (first | (go_at_call 20; refine HO.out.mono ?_; rintro e w3 ⟨g, rfl, hq3, hb3⟩; have HB3 := Lib.hid (below_then HB.out HB.out.size hb3); have hn3 := blk_new w3 (.cells #[.pointer none, .int .i64 0, .int .i64 0] 51); have HN3 := Lib.hid hn3; have hb4 : Below w3.heap.size w3 ((w3.alloc (.cells #[.pointer none, .int .i64 0, .int .i64 0] 51)).setRow w3.heap.size #[.pointer (some ⟨g, 0, none⟩), .int .i64 a1, .int .i64 a2]) := keys_below_setRow (below_alloc (Below.refl _ w3) _) (Nat.le_refl _) _; have HR4 := Lib.hid (HREC.out g _ (hq3.toR.below hb4)); have HB4 := Lib.hid (below_then HB3.out HB3.out.size hb4); have o1 := setRow_heap (w3.alloc (.cells #[.pointer none, .int .i64 0, .int .i64 0] 51)) w3.heap.size _ #[.pointer (some ⟨g, 0, none⟩), .int .i64 a1, .int .i64 a2] 51 _ hn3; obtain ⟨x0, x1, x2⟩ := blk_cells3 o1; clear hb3 hq3 hn3 hb4 o1) | (refine keys_store_row rfl 51 (.tmp 10) (.tmp 20) rfl (w3.heap.size) _ #[.pointer (some ⟨g, 0, none⟩), .int .i64 a1, .int .i64 a2] 51 rfl rfl HN3.out rfl (by kernel_rfl) (by intro v hv; simp at hv; rcases hv with rfl | rfl | rfl <;> rfl) ?_) | (go_at_call 22; refine HR4.out.mono ?_; rintro e w5 ⟨v5, rfl, ht5, ho5, hb5⟩; have HT5 := Lib.hid ht5; have HO5 := Lib.hid ho5; have HB5 := Lib.hid (below_then HB4.out HB4.out.size hb5); clear ht5 ho5 hb5))
  refine bodyPost_ret (v := .tuple #[v5, .int .i64 U, .int .i64 0]) (by simp [results, Tryd.results9, go_sem]) rfl ⟨_, rfl, HT5.out.toV (d := Kd.string) (fun _ _ => rfl) (fun _ => rfl) rfl w.heap.size (fun k hk => Nat.le_trans HB4.out.size (HO5.out k hk)), HB5.out⟩
def tr_six (p : Dv × Int × Int) : List ByteArray × (List (S60)) × Int × Bool × Int × Int := (p.1.b, p.1.w, p.1.f, p.1.d, p.2.1, p.2.2)
def tr_Append (D : Dv) (f m u : Int) (l : List ByteArray) (why : Int) : Dv × Int × Int := if tr_open D f m = 0 then tr_append D f m u l why else (dv_dev D, 0, tr_open D f m)
def trail_Append.f (l0_0 : List ByteArray) (l0_1 : List (S60)) (a0_2 : Int) (a0_3 : Bool) (a1 : Int) (a2 : Int) (a3 : Int) (a4 : ByteArray) : Option (List ByteArray × (List (S60)) × Int × Bool × Int × Int) := if dv_fit ⟨l0_0, l0_1, a0_2, a0_3⟩ then (sum_Frame.f a4).bind fun q => if q.1.size ≤ 1000000 then some (tr_six (tr_Append ⟨l0_0, l0_1, a0_2, a0_3⟩ a1 a2 a3 (if q.2 = 0 then tr_cut q.1 else []) q.2)) else none else none
set_option maxHeartbeats 2000000 in
set_option maxRecDepth 100000 in
theorem trail_Append.calls (A0_0 : Option Addr) (c0_0 : Nat) (l0_0 : List ByteArray) (A0_1 : Option Addr) (c0_1 : Nat) (l0_1 : List (S60)) (a0_2 : Int) (a0_3 : Bool) (a1 : Int) (a2 : Int) (a3 : Int) (a4 : ByteArray) (r1 : List ByteArray) (r2 : List (S60)) (r3 : Int) (r4 : Bool) (r5 : Int) (r6 : Int) (w : World) (hr0_0 : Kd.C Kd.string w A0_0 l0_0.length l0_0) (hc0_0 : l0_0.length ≤ c0_0) (hr0_1 : Kd.C k60 w A0_1 l0_1.length l0_1) (hc0_1 : l0_1.length ≤ c0_1) (h : trail_Append.f l0_0 l0_1 a0_2 a0_3 a1 a2 a3 a4 = some (r1, r2, r3, r4, r5, r6)) :
  Calls Tryd.prog 11 #[.agg #[.slice A0_0 l0_0.length c0_0, .slice A0_1 l0_1.length c0_1, .int .i64 a0_2, .bool a0_3], .int .i64 a1, .int .i64 a2, .int .i64 a3, .string a4] w fun e w' => ∃ v0_ v1_ : Value, e = .returned (.tuple #[.agg #[v0_, v1_, .int .i64 r3, .bool r4], .int .i64 r5, .int .i64 r6]) ∧ Kd.V Kd.string 9 w' w.heap.size (fun k_ => (w.heap.size ≤ k_)) v0_ r1 ∧ Kd.V k60 60 w' w.heap.size (fun k_ => (w.heap.size ≤ k_)) v1_ r2 ∧ Below w.heap.size w w' := by
 have hu := Tryd.underlying56
 have hu2 := Tryd.underlying25
 unfold trail_Append.f at h
 obtain ⟨D, hD⟩ : ∃ D : Dv, D = ⟨l0_0, l0_1, a0_2, a0_3⟩ := ⟨_, rfl⟩
 rw [← hD] at h
 obtain ⟨rfl, rfl, rfl, rfl⟩ : l0_0 = D.b ∧ l0_1 = D.w ∧ a0_2 = D.f ∧ a0_3 = D.d := by rw [hD]; exact ⟨rfl, rfl, rfl, rfl⟩
 clear hD
 split at h
 rotate_left
 ·cases h
 rename_i hfit
 obtain ⟨q, hfr, h⟩ := Option.bind_eq_some_iff.mp h
 obtain ⟨F, fw⟩ := q
 simp only at h
 split at h
 rotate_left
 ·cases h
 rename_i hF
 have H := Option.some.inj h
 clear h
 obtain ⟨E, hE⟩ : ∃ E, E = tr_Append D a1 a2 a3 (if fw = 0 then tr_cut F else []) fw := ⟨_, rfl⟩
 rw [← hE] at H
 unfold tr_six at H
 simp only [Prod.mk.injEq] at H
 obtain ⟨rfl, rfl, rfl, rfl, rfl, rfl⟩ := H
 have hb := below_alloc (below_alloc (Below.refl w.heap.size w) (.cells #[.slice A0_0 D.b.length c0_0, .slice A0_1 D.w.length c0_1, .int .i64 D.f, .bool D.d] 25)) (.cells #[.slice none 0 0, .slice none 0 0, .int .i64 0, .bool false] 25)
 have hn := blk_new (w.alloc (.cells #[.slice A0_0 D.b.length c0_0, .slice A0_1 D.w.length c0_1, .int .i64 D.f, .bool D.d] 25)) (.cells #[.slice none 0 0, .slice none 0 0, .int .i64 0, .bool false] 25)
 rw [World.size_alloc] at hn
 have HO := Lib.hid (tr_opens A0_0 c0_0 A0_1 c0_1 D a1 a2 _ (Kd.C_below hr0_0 hb) hc0_0 (Kd.C_below hr0_1 hb) hc0_1 hfit)
 have HB := Lib.hid hb
 have HN := Lib.hid hn
 clear hr0_0 hr0_1 hb hn
 change Hid (Calls _ _ _ _ (fun e w' => ∃ g, e = .returned (.tuple #[.pointer (some ⟨g, 0, none⟩), _, .int .i64 (tr_open D a1 a2)]) ∧ DQ _ g w' (dv_dev D) ∧ _)) at HO
 unfold tr_Append at hE
 by_cases c : tr_open D a1 a2 = 0
 rotate_left
 ·rw [if_neg c] at hE
  subst hE
  simp only [if_neg c] at HO ⊢
  generalize dv_dev D = E at HO ⊢
  generalize tr_open D a1 a2 = r at HO c ⊢
  unfold tr_zero at HO
  have d : (r == 0) = false := beq_eq_false_iff_ne.mpr c
  go_enter Tryd.func11, Tryd.ntmps11
  go_wp2_with (first | (go_at_call 20; refine HO.out.mono ?_; rintro e w3 ⟨g, rfl, hq3, hb3⟩; have HB3 := Lib.hid (below_then HB.out HB.out.size hb3); have HQ3 := Lib.hid hq3; have hn3 := blk_new w3 (.cells #[.pointer none, .int .i64 0, .int .i64 0] 51); have HN3 := Lib.hid hn3; have hb4 : Below w3.heap.size w3 ((w3.alloc (.cells #[.pointer none, .int .i64 0, .int .i64 0] 51)).setRow w3.heap.size #[.pointer none, .int .i64 0, .int .i64 0]) := keys_below_setRow (below_alloc (Below.refl _ w3) _) (Nat.le_refl _) _; have HB4 := Lib.hid hb4; have HCUR := Lib.hid ((hb4.block _ (Nat.lt_of_lt_of_le (blk_lt HN.out) hb3.size)).trans ((hb3.block _ (blk_lt HN.out)).trans HN.out)); have o1 := setRow_heap (w3.alloc (.cells #[.pointer none, .int .i64 0, .int .i64 0] 51)) w3.heap.size _ #[.pointer none, .int .i64 0, .int .i64 0] 51 _ hn3; obtain ⟨x0, x1, x2⟩ := blk_cells3 o1; have hq4 := hq3.below hb4; have hbb := below_then HB3.out HB3.out.size hb4; obtain ⟨B1, e1, B2, e2, hrow, _⟩ := hq4.all; obtain ⟨y0, y1, y2, y3⟩ := blk_cells4 hrow; have HCURF := Lib.hid (HCUR.out); have HOUT := Lib.hid (dev_out hq4 hrow hbb (s := w.heap.size + 1) (by omega) (fun k hk => by have h1 := hk.1; simp only [World.size_alloc] at h1; omega) HCURF.out); clear hrow; clear hq4 hbb; clear hb3 hq3 hn3 hb4 o1) | (refine keys_store_row rfl 51 (.tmp 14) (.tmp 23) rfl (w3.heap.size) _ #[.pointer none, .int .i64 0, .int .i64 0] 51 rfl rfl HN3.out rfl (by kernel_rfl) (by intro v hv; simp at hv; rcases hv with rfl | rfl <;> rfl) ?_) | (refine keys_store_row rfl 25 (.tmp 10) (.tmp 37) rfl (w.heap.size + 1) _ #[.slice B1 E.b.length e1, .slice B2 E.w.length e2, .int .i64 E.f, .bool E.d] 25 rfl rfl HCURF.out rfl (by kernel_rfl) (by intro v hv; simp at hv; rcases hv with rfl | rfl | rfl | rfl <;> rfl) ?_))
  obtain ⟨o1, o2, o3, o4⟩ := HOUT.out
  obtain ⟨x0, x1, x2, x3⟩ := blk_cells4 o1
  refine bodyPost_ret (v := .tuple #[.agg #[.slice B1 E.b.length e1, .slice B2 E.w.length e2, .int .i64 E.f, .bool E.d], .int .i64 0, .int .i64 r]) (by simp [results, Tryd.results11, go_sem, x0, x1, x2, x3]) rfl ⟨_, _, rfl, o2, o3, o4⟩
 ·rw [if_pos c] at hE
  obtain ⟨ho, hin⟩ := tr_open_zero c
  have hch := dv_open_zero ho
  have hdd : dv_dev D = D := if_pos hch
  simp only [if_pos c, c] at HO
  rw [hdd] at HO
  unfold tr_reg at HO
  obtain ⟨E, n5, why⟩ := E
  simp only
  have HMET := Lib.hid (fun (g : Nat) (P : Nat → Prop) (W : World) (hP : ∀ k, P k → k < W.heap.size) (hq : DQ P g W D) => tr_rAppend P g D a1 a2 a3 a4 F fw W hP hq (tr_ok_sane hch hfit.2.2) (tr_ok_len hch) hin hfr hF)
  rw [← hE] at HMET
  clear hE c ho hch hin hfit hdd hfr hF
  go_enter Tryd.func11, Tryd.ntmps11
  go_wp2_with (first | (go_at_call 20; refine HO.out.mono ?_; rintro e w3 ⟨g, rfl, hq3, hb3⟩; have HB3 := Lib.hid (below_then HB.out HB.out.size hb3); have HQ3 := Lib.hid hq3; have hn3 := blk_new w3 (.cells #[.pointer none, .int .i64 0, .int .i64 0] 51); have HN3 := Lib.hid hn3; have hb4 : Below w3.heap.size w3 ((w3.alloc (.cells #[.pointer none, .int .i64 0, .int .i64 0] 51)).setRow w3.heap.size #[.pointer (some ⟨g, 0, none⟩), .int .i64 a1, .int .i64 a2]) := keys_below_setRow (below_alloc (Below.refl _ w3) _) (Nat.le_refl _) _; have HB4 := Lib.hid hb4; have HCUR := Lib.hid ((hb4.block _ (Nat.lt_of_lt_of_le (blk_lt HN.out) hb3.size)).trans ((hb3.block _ (blk_lt HN.out)).trans HN.out)); have o1 := setRow_heap (w3.alloc (.cells #[.pointer none, .int .i64 0, .int .i64 0] 51)) w3.heap.size _ #[.pointer (some ⟨g, 0, none⟩), .int .i64 a1, .int .i64 a2] 51 _ hn3; obtain ⟨x0, x1, x2⟩ := blk_cells3 o1; have HM4 := Lib.hid (HMET.out g (fun k => w.heap.size + 2 ≤ k ∧ k < w3.heap.size) _ (fun k hk => Nat.lt_of_lt_of_le hk.2 hb4.size) ((hq3.mono (S := fun k => w.heap.size + 2 ≤ k ∧ k < w3.heap.size) (fun k hk => ⟨by have h1 := hk.1; simp only [World.size_alloc] at h1; omega, hk.2⟩)).below hb4)); have HBB := Lib.hid (below_then HB3.out HB3.out.size hb4); have HZ4 := Lib.hid (show w.heap.size + 1 < w3.heap.size from Nat.lt_of_lt_of_le (blk_lt HN.out) hb3.size); clear hb3 hq3 hn3 hb4 o1) | (refine keys_store_row rfl 51 (.tmp 14) (.tmp 23) rfl (w3.heap.size) _ #[.pointer (some ⟨g, 0, none⟩), .int .i64 a1, .int .i64 a2] 51 rfl rfl HN3.out rfl (by kernel_rfl) (by intro v hv; simp at hv; rcases hv with rfl | rfl | rfl <;> rfl) ?_) | (go_at_call 23; refine HM4.out.mono ?_; rintro e w5 ⟨rfl, hq5, hm5⟩; have hz4 := HZ4.out; have hb5 : Below w.heap.size w w5 := HBB.out.trans (hm5.under HBB.out.size (fun k hk => by have := hk.1; omega)); have hs4 := HB4.out.size; obtain ⟨B1, e1, B2, e2, hrow, _⟩ := hq5.all; obtain ⟨y0, y1, y2, y3⟩ := blk_cells4 hrow; have HCURF := Lib.hid (hm5.blk HCUR.out (fun hp => by have := hp.1; omega)); have HOUT := Lib.hid (dev_out hq5 hrow hb5 (s := w.heap.size + 1) (by omega) (fun k hk => by rcases hk with hk | hk <;> (have h1 := hk.1; omega)) HCURF.out); clear hrow; clear hq5 hm5 hb5 hz4 hs4) | (refine keys_store_row rfl 25 (.tmp 10) (.tmp 37) rfl (w.heap.size + 1) _ #[.slice B1 E.b.length e1, .slice B2 E.w.length e2, .int .i64 E.f, .bool E.d] 25 rfl rfl HCURF.out rfl (by kernel_rfl) (by intro v hv; simp at hv; rcases hv with rfl | rfl | rfl | rfl <;> rfl) ?_))
  obtain ⟨o1, o2, o3, o4⟩ := HOUT.out
  obtain ⟨x0, x1, x2, x3⟩ := blk_cells4 o1
  refine bodyPost_ret (v := .tuple #[.agg #[.slice B1 E.b.length e1, .slice B2 E.w.length e2, .int .i64 E.f, .bool E.d], .int .i64 n5, .int .i64 why]) (by simp [results, Tryd.results11, go_sem, x0, x1, x2, x3]) rfl ⟨_, _, rfl, o2, o3, o4⟩


end Go.Proofs.YthlnjbaichkipaaDoor.XR
