-- by px.py, a program of this session, over the kit's printer: functions given by hand stand beside printed ones. Lean checks all of it.
import Derived.Test.YtbimjpafgiogcaaDoorZXQ0
import Derived.Test.YtbimjpafgiogcaaDoorZXQ10
import Derived.Test.YtbimjpafgiogcaaDoorZXQ16
import Derived.Test.YtbimjpafgiogcaaDoorZXQ17
import Derived.Test.YtbimjpafgiogcaaDoorZXQ19
import Derived.Test.YtbimjpafgiogcaaDoorZGBef
import Derived.Test.YtbimjpafgiogcaaDoorZGA
import Derived.ScopeJumps
import Derived.WalkMore
namespace Go.Proofs.YtbimjpafgiogcaaDoor.XQ
open Go.RowKit Go.Proofs.YtbimjpafgiogcaaDoorW.PrintWords Go.Proofs.YtbimjpafgiogcaaDoorW.PrintLast Go.Proofs.YtbimjpafgiogcaaDoorW.PrintMore
attribute [local go_sem] max2_int min2_int max_two min_two max_three min_three max_four min_four   -- for this text's walks alone
set_option linter.unusedVariables false
set_option linter.unusedSimpArgs false
def quiet_hours_first.l0 : Nat → Int → Int → Int → Int → Int → Int → Int → Int → Int → Int → List (S45) → Int → Bool → Option (Int × Int)
 | 0, _, _, _, _, _, _, _, _, _, _, _, _, _ => none
 | k + 1, a0_0, a0_1, a0_2, a0_3, a0_4, a0_5, a0_6, a0_7, a0_8, a0_9, l0_10, t, a2 => if t > 253402300799 then some (0, 3) else (quiet_hours_in.f k a0_0 a0_1 a0_2 a0_3 a0_4 a0_5 a0_6 a0_7 a0_8 a0_9 l0_10 t).bind fun b => if b = a2 then some (t, 0) else (quiet_hours_step.f k a0_0 a0_1 a0_2 a0_3 a0_4 a0_5 a0_6 a0_7 a0_8 a0_9 l0_10 t a2).bind fun s => if t < s then quiet_hours_first.l0 k a0_0 a0_1 a0_2 a0_3 a0_4 a0_5 a0_6 a0_7 a0_8 a0_9 l0_10 s a2 else none
def quiet_hours_first.f (k : Nat) (a0_0 : Int) (a0_1 : Int) (a0_2 : Int) (a0_3 : Int) (a0_4 : Int) (a0_5 : Int) (a0_6 : Int) (a0_7 : Int) (a0_8 : Int) (a0_9 : Int) (l0_10 : List (S45)) (a1 : Int) (a2 : Bool) : Option (Int × Int) := (week_Sum.f k l0_10).bind fun p => if (a2 = true ∧ p.1 = 0) ∨ (a2 = false ∧ p.1 = 10080) then some (0, 3) else quiet_hours_first.l0 k a0_0 a0_1 a0_2 a0_3 a0_4 a0_5 a0_6 a0_7 a0_8 a0_9 l0_10 a1 a2
set_option maxHeartbeats 4000000 in
set_option maxRecDepth 100000 in
theorem quiet_hours_first.calls (k : Nat) (a0_0 : Int) (a0_1 : Int) (a0_2 : Int) (a0_3 : Int) (a0_4 : Int) (a0_5 : Int) (a0_6 : Int) (a0_7 : Int) (a0_8 : Int) (a0_9 : Int) (A0_10 : Option Addr) (c0_10 : Nat) (l0_10 : List (S45)) (a1 : Int) (a2 : Bool) (r1 : Int) (r2 : Int) (w : World) (hr0_10 : Kd.C k45 w A0_10 l0_10.length l0_10) (hc0_10 : l0_10.length ≤ c0_10) (h : quiet_hours_first.f k a0_0 a0_1 a0_2 a0_3 a0_4 a0_5 a0_6 a0_7 a0_8 a0_9 l0_10 a1 a2 = some (r1, r2)) (HG : GB w) :
  Calls Tryd.prog 16 #[.agg #[.int .i64 a0_0, .int .i64 a0_1, .int .i64 a0_2, .int .i64 a0_3, .int .i64 a0_4, .int .i64 a0_5, .int .i64 a0_6, .int .i64 a0_7, .int .i64 a0_8, .int .i64 a0_9, .slice A0_10 l0_10.length c0_10], .int .i64 a1, .bool a2] w fun e w' => e = .returned (.tuple #[.int .i64 r1, .int .i64 r2]) ∧ Below w.heap.size w w' := by
 have hu29 := Tryd.underlying29
 have hu47 := Tryd.underlying47
 obtain ⟨⟨p1, p2⟩, S0, H⟩ := Option.bind_eq_some_iff.mp h
 clear h
 obtain ⟨O1, hO1⟩ : ∃ O1 : Obj, O1 = .cells #[.int .i64 a0_0, .int .i64 a0_1, .int .i64 a0_2, .int .i64 a0_3, .int .i64 a0_4, .int .i64 a0_5, .int .i64 a0_6, .int .i64 a0_7, .int .i64 a0_8, .int .i64 a0_9, .slice A0_10 l0_10.length c0_10] 47 := ⟨_, rfl⟩
 have hb := below_alloc (Below.refl w.heap.size w) O1
 have hn := blk_new w O1
 have HR := Lib.hid hr0_10
 have HC := Lib.hid hc0_10
 have HG := Lib.hid HG
 have HU := Lib.hid (week_Sum.calls k A0_10 c0_10 l0_10 p1 p2 (w.alloc O1) (Kd.C_below hr0_10 hb) hc0_10 S0)
 subst hO1
 have HB0 := Lib.hid hb
 have HN0 := Lib.hid hn
 clear hb hn hr0_10 hc0_10 S0
 simp only at H
 cases a2 with
 | true =>
  by_cases cE : p1 = 0
  ·rw [if_pos (by simp [cE])] at H
   simp only [Option.some.injEq, Prod.mk.injEq] at H
   obtain ⟨rfl, rfl⟩ := H
   have dE : (p1 == 0) = true := beq_iff_eq.mpr cE
   clear cE
   go_enter Tryd.func16, Tryd.ntmps16
   go_wp2
   refine wp_scope_jumps 0 (fun _ _ => False) (fun _ _ => 0) rfl ?_ (fun _ _ hf => hf.elim)
   go_wp2_with (go_at_call 27; refine HU.out.mono ?_; rintro e w3 ⟨rfl, hb3⟩; have HB3 := Lib.hid (below_then HB0.out HB0.out.size hb3); clear hb3)
   simp only [Exit.jump]
   go_ret2
   exact ⟨rfl, HB3.out⟩
  rw [if_neg (by simp [cE])] at H
  have HA := Lib.hid H
  have dE : (p1 == 0) = false := beq_eq_false_iff_ne.mpr cE
  clear H cE
  go_enter Tryd.func16, Tryd.ntmps16
  go_wp2
  refine wp_scope_jumps 0 (fun a' w' => ∃ (kq : Nat) (t : Int) (u8 u9 u10 u11 u12 u13 u14 u15 u16 u17 u18 u19 u20 u21 u22 u23 u24 u25 u26 u27 u28 u29 u30 u31 u32 u33 u34 u35 u36 u37 u38 u39 u40 u41 u42 u43 : Value), a' = { tmps := #[.agg #[.int .i64 a0_0, .int .i64 a0_1, .int .i64 a0_2, .int .i64 a0_3, .int .i64 a0_4, .int .i64 a0_5, .int .i64 a0_6, .int .i64 a0_7, .int .i64 a0_8, .int .i64 a0_9, .slice A0_10 l0_10.length c0_10], .int .i64 t, .bool true, .pointer (some ⟨w.heap.size, 0, none⟩), undef, undef, .int .i64 0, .int .i64 0, u8, u9, u10, u11, u12, u13, u14, u15, u16, u17, u18, u19, u20, u21, u22, u23, u24, u25, u26, u27, u28, u29, u30, u31, u32, u33, u34, u35, u36, u37, u38, u39, u40, u41, u42, u43], defers := [] } ∧ Hid (quiet_hours_first.l0 kq a0_0 a0_1 a0_2 a0_3 a0_4 a0_5 a0_6 a0_7 a0_8 a0_9 l0_10 t true = some (r1, r2)) ∧ Hid (Below w.heap.size w w') ∧ Hid (w'.heap[w.heap.size]? = some (.cells #[.int .i64 a0_0, .int .i64 a0_1, .int .i64 a0_2, .int .i64 a0_3, .int .i64 a0_4, .int .i64 a0_5, .int .i64 a0_6, .int .i64 a0_7, .int .i64 a0_8, .int .i64 a0_9, .slice A0_10 l0_10.length c0_10] 47 (0, 0)))) (fun a' _ => (253402300800 - intOf (a'.tmps.getD 1 undef)).toNat) rfl ?_ ?_
  rotate_left
  ·rintro a' w' ⟨kq, t, u8, u9, u10, u11, u12, u13, u14, u15, u16, u17, u18, u19, u20, u21, u22, u23, u24, u25, u26, u27, u28, u29, u30, u31, u32, u33, u34, u35, u36, u37, u38, u39, u40, u41, u42, u43, rfl, HA, HB, HN⟩
   clear HU dE HB0 HN0
   cases kq with
   | zero => exact absurd HA.out (by simp [quiet_hours_first.l0])
   | succ k1 =>
   have H := HA.out
   clear HA
   rw [quiet_hours_first.l0] at H
   obtain ⟨y0, y1, y2, y3, y4, y5, y6, y7, y8, y9, y10⟩ := blk_cells11 HN.out
   by_cases m0 : t > 253402300799
   ·rw [if_pos m0] at H
    simp only [Option.some.injEq, Prod.mk.injEq] at H
    obtain ⟨rfl, rfl⟩ := H
    have d0 : decide (253402300799 < t) = true := decide_eq_true m0
    clear m0
    go_wp2
    simp only [Exit.jump]
    go_ret2
    exact ⟨rfl, HB.out⟩
   rw [if_neg m0] at H
   have d0 : decide (253402300799 < t) = false := decide_eq_false m0
   have HM := Lib.hid m0
   clear m0
   obtain ⟨b, B0, H⟩ := Option.bind_eq_some_iff.mp H
   have HI := Lib.hid (fun (W : World) (hb : Below w.heap.size w W) => quiet_hours_in.calls k1 a0_0 a0_1 a0_2 a0_3 a0_4 a0_5 a0_6 a0_7 a0_8 a0_9 A0_10 c0_10 l0_10 t b W (Kd.C_below HR.out hb) HC.out B0 (GB_below HG.out hb))
   clear B0
   cases b with
   | true =>
    rw [if_pos rfl] at H
    simp only [Option.some.injEq, Prod.mk.injEq] at H
    obtain ⟨rfl, rfl⟩ := H
    go_wp2_with (go_at_call 15; refine (HI.out _ HB.out).mono ?_; rintro e w4 ⟨rfl, hb4⟩; have HB4 := Lib.hid (below_then HB.out HB.out.size hb4); clear hb4)
    simp only [Exit.jump]
    go_ret2
    exact ⟨rfl, HB4.out⟩
   | false =>
    rw [if_neg (by decide)] at H
    obtain ⟨s, S0, H⟩ := Option.bind_eq_some_iff.mp H
    have HS := Lib.hid (fun (W : World) (hb : Below w.heap.size w W) => quiet_hours_step.calls k1 a0_0 a0_1 a0_2 a0_3 a0_4 a0_5 a0_6 a0_7 a0_8 a0_9 A0_10 c0_10 l0_10 t true s W (Kd.C_below HR.out hb) HC.out S0 (GB_below HG.out hb))
    clear S0
    by_cases cs : t < s
    rotate_left
    ·rw [if_neg cs] at H
     cases H
    rw [if_pos cs] at H
    have HL := Lib.hid H
    have HT := Lib.hid cs
    clear H cs
    go_wp2_with (first | (go_at_call 15; refine (HI.out _ HB.out).mono ?_; rintro e w4 ⟨rfl, hb4⟩; have HB4 := Lib.hid (below_then HB.out HB.out.size hb4); have HN4 := Lib.hid ((hb4.block _ (blk_lt HN.out)).trans HN.out); obtain ⟨z0, z1, z2, z3, z4, z5, z6, z7, z8, z9, z10⟩ := blk_cells11 ((hb4.block _ (blk_lt HN.out)).trans HN.out); clear hb4) | (go_at_call 28; refine (HS.out _ HB4.out).mono ?_; rintro e w5 ⟨rfl, hb5⟩; have HB5 := Lib.hid (below_then HB4.out HB4.out.size hb5); have HN5 := Lib.hid ((hb5.block _ (blk_lt HN4.out)).trans HN4.out); clear hb5))
    go_step3
    refine ⟨rfl, ⟨⟨k1, s, _, _, _, _, _, _, _, _, _, _, _, _, _, _, _, _, _, _, _, _, _, _, _, _, _, _, _, _, _, _, _, _, _, _, _, _, rfl, HL, HB5, HN5⟩, ?_⟩⟩
    have h1 := HT.out
    have h2 := HM.out
    simp [intOf]
    omega
  ·go_wp2_with (go_at_call 27; refine HU.out.mono ?_; rintro e w3 ⟨rfl, hb3⟩; have HB := Lib.hid (below_then HB0.out HB0.out.size hb3); have HN := Lib.hid ((hb3.block _ (blk_lt HN0.out)).trans HN0.out); clear hb3)
   go_step3
   obtain ⟨kq, hkq⟩ : ∃ kq, kq = k := ⟨_, rfl⟩
   obtain ⟨t, ht⟩ : ∃ t, t = a1 := ⟨_, rfl⟩
   rw [← hkq, ← ht] at HA
   rw [← ht]
   clear ht hkq HU dE HB0 HN0
   cases kq with
   | zero => exact absurd HA.out (by simp [quiet_hours_first.l0])
   | succ k1 =>
   have H := HA.out
   clear HA
   rw [quiet_hours_first.l0] at H
   obtain ⟨y0, y1, y2, y3, y4, y5, y6, y7, y8, y9, y10⟩ := blk_cells11 HN.out
   by_cases m0 : t > 253402300799
   ·rw [if_pos m0] at H
    simp only [Option.some.injEq, Prod.mk.injEq] at H
    obtain ⟨rfl, rfl⟩ := H
    have d0 : decide (253402300799 < t) = true := decide_eq_true m0
    clear m0
    go_wp2
    simp only [Exit.jump]
    go_ret2
    exact ⟨rfl, HB.out⟩
   rw [if_neg m0] at H
   have d0 : decide (253402300799 < t) = false := decide_eq_false m0
   have HM := Lib.hid m0
   clear m0
   obtain ⟨b, B0, H⟩ := Option.bind_eq_some_iff.mp H
   have HI := Lib.hid (fun (W : World) (hb : Below w.heap.size w W) => quiet_hours_in.calls k1 a0_0 a0_1 a0_2 a0_3 a0_4 a0_5 a0_6 a0_7 a0_8 a0_9 A0_10 c0_10 l0_10 t b W (Kd.C_below HR.out hb) HC.out B0 (GB_below HG.out hb))
   clear B0
   cases b with
   | true =>
    rw [if_pos rfl] at H
    simp only [Option.some.injEq, Prod.mk.injEq] at H
    obtain ⟨rfl, rfl⟩ := H
    go_wp2_with (go_at_call 15; refine (HI.out _ HB.out).mono ?_; rintro e w4 ⟨rfl, hb4⟩; have HB4 := Lib.hid (below_then HB.out HB.out.size hb4); clear hb4)
    simp only [Exit.jump]
    go_ret2
    exact ⟨rfl, HB4.out⟩
   | false =>
    rw [if_neg (by decide)] at H
    obtain ⟨s, S0, H⟩ := Option.bind_eq_some_iff.mp H
    have HS := Lib.hid (fun (W : World) (hb : Below w.heap.size w W) => quiet_hours_step.calls k1 a0_0 a0_1 a0_2 a0_3 a0_4 a0_5 a0_6 a0_7 a0_8 a0_9 A0_10 c0_10 l0_10 t true s W (Kd.C_below HR.out hb) HC.out S0 (GB_below HG.out hb))
    clear S0
    by_cases cs : t < s
    rotate_left
    ·rw [if_neg cs] at H
     cases H
    rw [if_pos cs] at H
    have HL := Lib.hid H
    have HT := Lib.hid cs
    clear H cs
    go_wp2_with (first | (go_at_call 15; refine (HI.out _ HB.out).mono ?_; rintro e w4 ⟨rfl, hb4⟩; have HB4 := Lib.hid (below_then HB.out HB.out.size hb4); have HN4 := Lib.hid ((hb4.block _ (blk_lt HN.out)).trans HN.out); obtain ⟨z0, z1, z2, z3, z4, z5, z6, z7, z8, z9, z10⟩ := blk_cells11 ((hb4.block _ (blk_lt HN.out)).trans HN.out); clear hb4) | (go_at_call 28; refine (HS.out _ HB4.out).mono ?_; rintro e w5 ⟨rfl, hb5⟩; have HB5 := Lib.hid (below_then HB4.out HB4.out.size hb5); have HN5 := Lib.hid ((hb5.block _ (blk_lt HN4.out)).trans HN4.out); clear hb5))
    go_step3
    refine ⟨rfl, ⟨k1, s, _, _, _, _, _, _, _, _, _, _, _, _, _, _, _, _, _, _, _, _, _, _, _, _, _, _, _, _, _, _, _, _, _, _, _, _, rfl, HL, HB5, HN5⟩⟩
 | false =>
  by_cases cE : p1 = 10080
  ·rw [if_pos (by simp [cE])] at H
   simp only [Option.some.injEq, Prod.mk.injEq] at H
   obtain ⟨rfl, rfl⟩ := H
   have dE : (p1 == 10080) = true := beq_iff_eq.mpr cE
   clear cE
   go_enter Tryd.func16, Tryd.ntmps16
   go_wp2
   refine wp_scope_jumps 0 (fun _ _ => False) (fun _ _ => 0) rfl ?_ (fun _ _ hf => hf.elim)
   go_wp2_with (go_at_call 27; refine HU.out.mono ?_; rintro e w3 ⟨rfl, hb3⟩; have HB3 := Lib.hid (below_then HB0.out HB0.out.size hb3); clear hb3)
   simp only [Exit.jump]
   go_ret2
   exact ⟨rfl, HB3.out⟩
  rw [if_neg (by simp [cE])] at H
  have HA := Lib.hid H
  have dE : (p1 == 10080) = false := beq_eq_false_iff_ne.mpr cE
  clear H cE
  go_enter Tryd.func16, Tryd.ntmps16
  go_wp2
  refine wp_scope_jumps 0 (fun a' w' => ∃ (kq : Nat) (t : Int) (u8 u9 u10 u11 u12 u13 u14 u15 u16 u17 u18 u19 u20 u21 u22 u23 u24 u25 u26 u27 u28 u29 u30 u31 u32 u33 u34 u35 u36 u37 u38 u39 u40 u41 u42 u43 : Value), a' = { tmps := #[.agg #[.int .i64 a0_0, .int .i64 a0_1, .int .i64 a0_2, .int .i64 a0_3, .int .i64 a0_4, .int .i64 a0_5, .int .i64 a0_6, .int .i64 a0_7, .int .i64 a0_8, .int .i64 a0_9, .slice A0_10 l0_10.length c0_10], .int .i64 t, .bool false, .pointer (some ⟨w.heap.size, 0, none⟩), undef, undef, .int .i64 0, .int .i64 0, u8, u9, u10, u11, u12, u13, u14, u15, u16, u17, u18, u19, u20, u21, u22, u23, u24, u25, u26, u27, u28, u29, u30, u31, u32, u33, u34, u35, u36, u37, u38, u39, u40, u41, u42, u43], defers := [] } ∧ Hid (quiet_hours_first.l0 kq a0_0 a0_1 a0_2 a0_3 a0_4 a0_5 a0_6 a0_7 a0_8 a0_9 l0_10 t false = some (r1, r2)) ∧ Hid (Below w.heap.size w w') ∧ Hid (w'.heap[w.heap.size]? = some (.cells #[.int .i64 a0_0, .int .i64 a0_1, .int .i64 a0_2, .int .i64 a0_3, .int .i64 a0_4, .int .i64 a0_5, .int .i64 a0_6, .int .i64 a0_7, .int .i64 a0_8, .int .i64 a0_9, .slice A0_10 l0_10.length c0_10] 47 (0, 0)))) (fun a' _ => (253402300800 - intOf (a'.tmps.getD 1 undef)).toNat) rfl ?_ ?_
  rotate_left
  ·rintro a' w' ⟨kq, t, u8, u9, u10, u11, u12, u13, u14, u15, u16, u17, u18, u19, u20, u21, u22, u23, u24, u25, u26, u27, u28, u29, u30, u31, u32, u33, u34, u35, u36, u37, u38, u39, u40, u41, u42, u43, rfl, HA, HB, HN⟩
   clear HU dE HB0 HN0
   cases kq with
   | zero => exact absurd HA.out (by simp [quiet_hours_first.l0])
   | succ k1 =>
   have H := HA.out
   clear HA
   rw [quiet_hours_first.l0] at H
   obtain ⟨y0, y1, y2, y3, y4, y5, y6, y7, y8, y9, y10⟩ := blk_cells11 HN.out
   by_cases m0 : t > 253402300799
   ·rw [if_pos m0] at H
    simp only [Option.some.injEq, Prod.mk.injEq] at H
    obtain ⟨rfl, rfl⟩ := H
    have d0 : decide (253402300799 < t) = true := decide_eq_true m0
    clear m0
    go_wp2
    simp only [Exit.jump]
    go_ret2
    exact ⟨rfl, HB.out⟩
   rw [if_neg m0] at H
   have d0 : decide (253402300799 < t) = false := decide_eq_false m0
   have HM := Lib.hid m0
   clear m0
   obtain ⟨b, B0, H⟩ := Option.bind_eq_some_iff.mp H
   have HI := Lib.hid (fun (W : World) (hb : Below w.heap.size w W) => quiet_hours_in.calls k1 a0_0 a0_1 a0_2 a0_3 a0_4 a0_5 a0_6 a0_7 a0_8 a0_9 A0_10 c0_10 l0_10 t b W (Kd.C_below HR.out hb) HC.out B0 (GB_below HG.out hb))
   clear B0
   cases b with
   | false =>
    rw [if_pos rfl] at H
    simp only [Option.some.injEq, Prod.mk.injEq] at H
    obtain ⟨rfl, rfl⟩ := H
    go_wp2_with (go_at_call 15; refine (HI.out _ HB.out).mono ?_; rintro e w4 ⟨rfl, hb4⟩; have HB4 := Lib.hid (below_then HB.out HB.out.size hb4); clear hb4)
    simp only [Exit.jump]
    go_ret2
    exact ⟨rfl, HB4.out⟩
   | true =>
    rw [if_neg (by decide)] at H
    obtain ⟨s, S0, H⟩ := Option.bind_eq_some_iff.mp H
    have HS := Lib.hid (fun (W : World) (hb : Below w.heap.size w W) => quiet_hours_step.calls k1 a0_0 a0_1 a0_2 a0_3 a0_4 a0_5 a0_6 a0_7 a0_8 a0_9 A0_10 c0_10 l0_10 t false s W (Kd.C_below HR.out hb) HC.out S0 (GB_below HG.out hb))
    clear S0
    by_cases cs : t < s
    rotate_left
    ·rw [if_neg cs] at H
     cases H
    rw [if_pos cs] at H
    have HL := Lib.hid H
    have HT := Lib.hid cs
    clear H cs
    go_wp2_with (first | (go_at_call 15; refine (HI.out _ HB.out).mono ?_; rintro e w4 ⟨rfl, hb4⟩; have HB4 := Lib.hid (below_then HB.out HB.out.size hb4); have HN4 := Lib.hid ((hb4.block _ (blk_lt HN.out)).trans HN.out); obtain ⟨z0, z1, z2, z3, z4, z5, z6, z7, z8, z9, z10⟩ := blk_cells11 ((hb4.block _ (blk_lt HN.out)).trans HN.out); clear hb4) | (go_at_call 28; refine (HS.out _ HB4.out).mono ?_; rintro e w5 ⟨rfl, hb5⟩; have HB5 := Lib.hid (below_then HB4.out HB4.out.size hb5); have HN5 := Lib.hid ((hb5.block _ (blk_lt HN4.out)).trans HN4.out); clear hb5))
    go_step3
    refine ⟨rfl, ⟨⟨k1, s, _, _, _, _, _, _, _, _, _, _, _, _, _, _, _, _, _, _, _, _, _, _, _, _, _, _, _, _, _, _, _, _, _, _, _, _, rfl, HL, HB5, HN5⟩, ?_⟩⟩
    have h1 := HT.out
    have h2 := HM.out
    simp [intOf]
    omega
  ·go_wp2_with (go_at_call 27; refine HU.out.mono ?_; rintro e w3 ⟨rfl, hb3⟩; have HB := Lib.hid (below_then HB0.out HB0.out.size hb3); have HN := Lib.hid ((hb3.block _ (blk_lt HN0.out)).trans HN0.out); clear hb3)
   go_step3
   obtain ⟨kq, hkq⟩ : ∃ kq, kq = k := ⟨_, rfl⟩
   obtain ⟨t, ht⟩ : ∃ t, t = a1 := ⟨_, rfl⟩
   rw [← hkq, ← ht] at HA
   rw [← ht]
   clear ht hkq HU dE HB0 HN0
   cases kq with
   | zero => exact absurd HA.out (by simp [quiet_hours_first.l0])
   | succ k1 =>
   have H := HA.out
   clear HA
   rw [quiet_hours_first.l0] at H
   obtain ⟨y0, y1, y2, y3, y4, y5, y6, y7, y8, y9, y10⟩ := blk_cells11 HN.out
   by_cases m0 : t > 253402300799
   ·rw [if_pos m0] at H
    simp only [Option.some.injEq, Prod.mk.injEq] at H
    obtain ⟨rfl, rfl⟩ := H
    have d0 : decide (253402300799 < t) = true := decide_eq_true m0
    clear m0
    go_wp2
    simp only [Exit.jump]
    go_ret2
    exact ⟨rfl, HB.out⟩
   rw [if_neg m0] at H
   have d0 : decide (253402300799 < t) = false := decide_eq_false m0
   have HM := Lib.hid m0
   clear m0
   obtain ⟨b, B0, H⟩ := Option.bind_eq_some_iff.mp H
   have HI := Lib.hid (fun (W : World) (hb : Below w.heap.size w W) => quiet_hours_in.calls k1 a0_0 a0_1 a0_2 a0_3 a0_4 a0_5 a0_6 a0_7 a0_8 a0_9 A0_10 c0_10 l0_10 t b W (Kd.C_below HR.out hb) HC.out B0 (GB_below HG.out hb))
   clear B0
   cases b with
   | false =>
    rw [if_pos rfl] at H
    simp only [Option.some.injEq, Prod.mk.injEq] at H
    obtain ⟨rfl, rfl⟩ := H
    go_wp2_with (go_at_call 15; refine (HI.out _ HB.out).mono ?_; rintro e w4 ⟨rfl, hb4⟩; have HB4 := Lib.hid (below_then HB.out HB.out.size hb4); clear hb4)
    simp only [Exit.jump]
    go_ret2
    exact ⟨rfl, HB4.out⟩
   | true =>
    rw [if_neg (by decide)] at H
    obtain ⟨s, S0, H⟩ := Option.bind_eq_some_iff.mp H
    have HS := Lib.hid (fun (W : World) (hb : Below w.heap.size w W) => quiet_hours_step.calls k1 a0_0 a0_1 a0_2 a0_3 a0_4 a0_5 a0_6 a0_7 a0_8 a0_9 A0_10 c0_10 l0_10 t false s W (Kd.C_below HR.out hb) HC.out S0 (GB_below HG.out hb))
    clear S0
    by_cases cs : t < s
    rotate_left
    ·rw [if_neg cs] at H
     cases H
    rw [if_pos cs] at H
    have HL := Lib.hid H
    have HT := Lib.hid cs
    clear H cs
    go_wp2_with (first | (go_at_call 15; refine (HI.out _ HB.out).mono ?_; rintro e w4 ⟨rfl, hb4⟩; have HB4 := Lib.hid (below_then HB.out HB.out.size hb4); have HN4 := Lib.hid ((hb4.block _ (blk_lt HN.out)).trans HN.out); obtain ⟨z0, z1, z2, z3, z4, z5, z6, z7, z8, z9, z10⟩ := blk_cells11 ((hb4.block _ (blk_lt HN.out)).trans HN.out); clear hb4) | (go_at_call 28; refine (HS.out _ HB4.out).mono ?_; rintro e w5 ⟨rfl, hb5⟩; have HB5 := Lib.hid (below_then HB4.out HB4.out.size hb5); have HN5 := Lib.hid ((hb5.block _ (blk_lt HN4.out)).trans HN4.out); clear hb5))
    go_step3
    refine ⟨rfl, ⟨k1, s, _, _, _, _, _, _, _, _, _, _, _, _, _, _, _, _, _, _, _, _, _, _, _, _, _, _, _, _, _, _, _, _, _, _, _, _, rfl, HL, HB5, HN5⟩⟩


def quiet_Free.f (k : Nat) (a0_0 : Int) (a0_1 : Int) (a0_2 : Int) (a0_3 : Int) (a0_4 : Int) (a0_5 : Int) (a0_6 : Int) (a0_7 : Int) (a0_8 : Int) (a0_9 : Int) (l0_10 : List (S45)) (a1 : Int) : Option (Int × Int) := (quiet_open.f k a0_0 a0_1 a0_2 a0_3 a0_4 a0_5 a0_6 a0_7 a0_8 a0_9 l0_10 a1).bind fun bt340 => (if bt340.2.2.2.2.2.2.2.2.2.2.2 = 0 then ((quiet_hours_first.f k bt340.1 bt340.2.1 bt340.2.2.1 bt340.2.2.2.1 bt340.2.2.2.2.1 bt340.2.2.2.2.2.1 bt340.2.2.2.2.2.2.1 bt340.2.2.2.2.2.2.2.1 bt340.2.2.2.2.2.2.2.2.1 bt340.2.2.2.2.2.2.2.2.2.1 bt340.2.2.2.2.2.2.2.2.2.2.1 a1 false).bind fun bt355 => (some (bt355.1, bt355.2))) else (some (0, bt340.2.2.2.2.2.2.2.2.2.2.2)))
set_option maxHeartbeats 8000000 in
set_option maxRecDepth 100000 in
theorem quiet_Free.calls (k : Nat) (a0_0 : Int) (a0_1 : Int) (a0_2 : Int) (a0_3 : Int) (a0_4 : Int) (a0_5 : Int) (a0_6 : Int) (a0_7 : Int) (a0_8 : Int) (a0_9 : Int) (A0_10 : Option Addr) (c0_10 : Nat) (l0_10 : List (S45)) (a1 : Int) (r1 : Int) (r2 : Int) (w : World) (hr0_10 : Kd.C k45 w A0_10 l0_10.length l0_10) (hc0_10 : l0_10.length ≤ c0_10) (h : quiet_Free.f k a0_0 a0_1 a0_2 a0_3 a0_4 a0_5 a0_6 a0_7 a0_8 a0_9 l0_10 a1 = some (r1, r2)) (HG : GB w) :
  Calls Tryd.prog 8 #[.agg #[.int .i64 a0_0, .int .i64 a0_1, .int .i64 a0_2, .int .i64 a0_3, .int .i64 a0_4, .int .i64 a0_5, .int .i64 a0_6, .int .i64 a0_7, .int .i64 a0_8, .int .i64 a0_9, .slice A0_10 l0_10.length c0_10], .int .i64 a1] w fun e w' => e = .returned (.tuple #[.int .i64 r1, .int .i64 r2]) ∧ Below w.heap.size w w' := by
 have hu29 := Tryd.underlying29
 have hu47 := Tryd.underlying47
 have HR0_10 := Aside0.mk hr0_10
 have HC0_10 := Aside0.mk hc0_10
 clear hr0_10 hc0_10
 have HB := Aside0.mk (Below.refl w.heap.size w)
 have H : ((quiet_open.f k a0_0 a0_1 a0_2 a0_3 a0_4 a0_5 a0_6 a0_7 a0_8 a0_9 l0_10 a1).bind fun bt340 => (if bt340.2.2.2.2.2.2.2.2.2.2.2 = 0 then ((quiet_hours_first.f k bt340.1 bt340.2.1 bt340.2.2.1 bt340.2.2.2.1 bt340.2.2.2.2.1 bt340.2.2.2.2.2.1 bt340.2.2.2.2.2.2.1 bt340.2.2.2.2.2.2.2.1 bt340.2.2.2.2.2.2.2.2.1 bt340.2.2.2.2.2.2.2.2.2.1 bt340.2.2.2.2.2.2.2.2.2.2.1 a1 false).bind fun bt355 => (some (bt355.1, bt355.2))) else (some (0, bt340.2.2.2.2.2.2.2.2.2.2.2)))) = some (r1, r2) := h
 clear h
 replace H := Option.bind_eq_some_iff.mp H
 obtain ⟨⟨t340, t341, t342, t343, t344, t345, t346, t347, t348, t349, t350, t353⟩, A30, H⟩ := H
 replace H : (if t353 = 0 then ((quiet_hours_first.f k t340 t341 t342 t343 t344 t345 t346 t347 t348 t349 t350 a1 false).bind fun bt355 => (some (bt355.1, bt355.2))) else (some (0, t353))) = some (r1, r2) := H
 have A3 := Aside0.mk A30
 clear A30
 by_cases c4 : t353 = 0
 ·rw [if_pos c4] at H
  have c4b0 : (t353 == 0) = true := beq_iff_eq.mpr c4
  have c4b1 : (t353 != 0) = false := bne_eq_false_iff_eq.mpr c4
  clear c4
  replace H := Option.bind_eq_some_iff.mp H
  obtain ⟨⟨t355, t356⟩, A50, H⟩ := H
  replace H : (some (t355, t356)) = some (r1, r2) := H
  have A5 := Aside0.mk A50
  clear A50
  simp only [Option.some.injEq, Prod.mk.injEq] at H
  obtain ⟨rfl, rfl⟩ := H
  go_enter Tryd.func8, Tryd.ntmps8
  go_wp2_with (first | ((with_reducible refine gate_dst (N := 2) rfl ?_); refine box_event ?hg (N := 2) ?hd (cs := #[.int .i64 a0_0, .int .i64 a0_1, .int .i64 a0_2, .int .i64 a0_3, .int .i64 a0_4, .int .i64 a0_5, .int .i64 a0_6, .int .i64 a0_7, .int .i64 a0_8, .int .i64 a0_9, .slice A0_10 l0_10.length c0_10]) (t := 29) ?hr ?_; (case hd => rfl); (case hg => rfl); (case hr => first | (go_simp; done) | (go_simp; rfl)); intro gb339 hg w6 hbox hb; have n0_ := Aside0.mk (below_step (by repeat (first | (with_reducible first | exact HB.out | apply below_alloc | apply pw_below_drewN | apply below_drew1) | exact HB.out)) hb); have n1_ := Aside0.mk (hbox); have n2_ := Aside0.mk ((by rw [hg]; exact (below_size (by repeat (first | (with_reducible first | exact HB.out | apply below_alloc | apply pw_below_drewN | apply below_drew1) | exact HB.out))) : w.heap.size ≤ gb339)); have n3_ := Aside0.mk ((by rw [hg]; exact (below_size (by repeat (first | (with_reducible first | exact HB.out | apply below_alloc | apply pw_below_drewN | apply below_drew1) | exact HB.out))) : w.heap.size ≤ gb339)); clear HB; have HB := n0_; have BK339 := n1_; have GW339 := n2_; have GE339 := n3_; clear n0_ n1_ n2_ n3_; clear hb hbox hg; have hcz7_0 : w6.cell? ⟨gb339, 0, none⟩ = some (.int .i64 a0_0) := (blk_cell BK339.out 0).trans rfl; have hcz7_1 : w6.cell? ⟨gb339, 1, none⟩ = some (.int .i64 a0_1) := (blk_cell BK339.out 1).trans rfl; have hcz7_2 : w6.cell? ⟨gb339, 2, none⟩ = some (.int .i64 a0_2) := (blk_cell BK339.out 2).trans rfl; have hcz7_3 : w6.cell? ⟨gb339, 3, none⟩ = some (.int .i64 a0_3) := (blk_cell BK339.out 3).trans rfl; have hcz7_4 : w6.cell? ⟨gb339, 4, none⟩ = some (.int .i64 a0_4) := (blk_cell BK339.out 4).trans rfl; have hcz7_5 : w6.cell? ⟨gb339, 5, none⟩ = some (.int .i64 a0_5) := (blk_cell BK339.out 5).trans rfl; have hcz7_6 : w6.cell? ⟨gb339, 6, none⟩ = some (.int .i64 a0_6) := (blk_cell BK339.out 6).trans rfl; have hcz7_7 : w6.cell? ⟨gb339, 7, none⟩ = some (.int .i64 a0_7) := (blk_cell BK339.out 7).trans rfl; have hcz7_8 : w6.cell? ⟨gb339, 8, none⟩ = some (.int .i64 a0_8) := (blk_cell BK339.out 8).trans rfl; have hcz7_9 : w6.cell? ⟨gb339, 9, none⟩ = some (.int .i64 a0_9) := (blk_cell BK339.out 9).trans rfl; have hcz7_10 : w6.cell? ⟨gb339, 10, none⟩ = some (.slice A0_10 l0_10.length c0_10) := (blk_cell BK339.out 10).trans rfl; have hfz7_0 := blk_frozen BK339.out 0; have hfz7_1 := blk_frozen BK339.out 1; have hfz7_2 := blk_frozen BK339.out 2; have hfz7_3 := blk_frozen BK339.out 3; have hfz7_4 := blk_frozen BK339.out 4; have hfz7_5 := blk_frozen BK339.out 5; have hfz7_6 := blk_frozen BK339.out 6; have hfz7_7 := blk_frozen BK339.out 7; have hfz7_8 := blk_frozen BK339.out 8; have hfz7_9 := blk_frozen BK339.out 9; have hfz7_10 := blk_frozen BK339.out 10) | ((with_reducible refine gate_callee (f := 14) rfl ?_); refine goesL_ (some 11) rfl rfl Tryd.func14 (by kernel_rfl) rfl #[.agg #[.int .i64 a0_0, .int .i64 a0_1, .int .i64 a0_2, .int .i64 a0_3, .int .i64 a0_4, .int .i64 a0_5, .int .i64 a0_6, .int .i64 a0_7, .int .i64 a0_8, .int .i64 a0_9, .slice A0_10 l0_10.length c0_10], .int .i64 a1] rfl (by (try simp only [List.map_toArray, List.map_cons, List.map_nil]); first | done | rfl | (simp only [List.length_drop, List.length_take]; rfl)) ?_; (with_reducible refine (quiet_open.calls k a0_0 a0_1 a0_2 a0_3 a0_4 a0_5 a0_6 a0_7 a0_8 a0_9 (fun k_ => k_ < w.heap.size) _ _ l0_10 a1 t340 t341 t342 t343 t344 t345 t346 t347 t348 t349 t350 t353 _ ?side1 A3.out).mono ?_); (case side1 => exact Kd.V_mk HC0_10.out (Kd.F_below (Kd.C_F k45_heap HR0_10.out) (by repeat (first | (with_reducible first | exact HB.out | apply below_alloc | apply pw_below_drewN | apply below_drew1 | refine below_set ?_ GE339.out) | exact HB.out)))); rintro e w8 ⟨v351, rfl, ho0, hb⟩; refine ⟨_, rfl, ?_⟩; have n0_ := Aside0.mk (Kd.V_lower (Kd.V_mono (ok' := fun k_ => k_ ≠ gb339) ho0 (fun k_ hk_ => Or.elim hk_ (fun hs_ => fun e_ => Nat.not_le.2 hs_ (by rw [e_]; exact GW339.out)) (fun hn_ => (Kd.freshB (g := gb339) (o := .cells #[.int .i64 a0_0, .int .i64 a0_1, .int .i64 a0_2, .int .i64 a0_3, .int .i64 a0_4, .int .i64 a0_5, .int .i64 a0_6, .int .i64 a0_7, .int .i64 a0_8, .int .i64 a0_9, .slice A0_10 l0_10.length c0_10] 29 (0, 0)) (by (with_reducible repeat (first | refine blk_drewN ?_ _ | refine blk_drew ?_ | refine blk_alloc ?_ _)); exact BK339.out) k_ hn_)))) (below_size (by repeat (first | (with_reducible first | exact HB.out | apply below_alloc | apply pw_below_drewN | apply below_drew1 | refine below_set ?_ GE339.out) | exact HB.out)))); have n1_ := Aside0.mk (blk_below (g := gb339) (o := .cells #[.int .i64 a0_0, .int .i64 a0_1, .int .i64 a0_2, .int .i64 a0_3, .int .i64 a0_4, .int .i64 a0_5, .int .i64 a0_6, .int .i64 a0_7, .int .i64 a0_8, .int .i64 a0_9, .slice A0_10 l0_10.length c0_10] 29 (0, 0)) (by (with_reducible repeat (first | refine blk_drewN ?_ _ | refine blk_drew ?_ | refine blk_alloc ?_ _)); exact BK339.out) hb); have n2_ := Aside0.mk (below_step (by repeat (first | (with_reducible first | exact HB.out | apply below_alloc | apply pw_below_drewN | apply below_drew1 | refine below_set ?_ GE339.out) | exact HB.out)) hb); clear BK339; clear HB; have HO352 := n0_; have BK339 := n1_; have HB := n2_; clear n0_ n1_ n2_; (try clear hb); (try clear hb2); (try clear hk); (try clear hi); (try clear ho0)) | ((with_reducible refine gate_dst (N := 6) rfl ?_); refine box_event ?hg (N := 6) ?hd (cs := #[.int .i64 0, .int .i64 0, .int .i64 0, .int .i64 0, .int .i64 0, .int .i64 0, .int .i64 0, .int .i64 0, .int .i64 0, .int .i64 0, .slice none 0 0]) (t := 47) ?hr ?_; (case hd => rfl); (case hg => rfl); (case hr => first | (go_simp; done) | (go_simp; rfl)); intro gb354 hg w9 hbox hb; have n0_ := Aside0.mk (Kd.V_below (Kd.V_elderB (by (with_reducible repeat (first | apply Kd.V_alloc | apply Kd.V_drewN | apply Kd.V_drew)); exact HO352.out) gb354 (Nat.le_of_eq hg.symm)) hb); have n1_ := Aside0.mk (blk_below (g := gb339) (o := .cells #[.int .i64 a0_0, .int .i64 a0_1, .int .i64 a0_2, .int .i64 a0_3, .int .i64 a0_4, .int .i64 a0_5, .int .i64 a0_6, .int .i64 a0_7, .int .i64 a0_8, .int .i64 a0_9, .slice A0_10 l0_10.length c0_10] 29 (0, 0)) (by (with_reducible repeat (first | refine blk_drewN ?_ _ | refine blk_drew ?_ | refine blk_alloc ?_ _)); exact BK339.out) hb); have n2_ := Aside0.mk (below_step (by repeat (first | (with_reducible first | exact HB.out | apply below_alloc | apply pw_below_drewN | apply below_drew1 | refine below_set ?_ GE339.out) | exact HB.out)) hb); have n3_ := Aside0.mk (hbox); have n4_ := Aside0.mk ((by rw [hg]; exact (below_size (by repeat (first | (with_reducible first | exact HB.out | apply below_alloc | apply pw_below_drewN | apply below_drew1 | refine below_set ?_ GE339.out) | exact HB.out))) : w.heap.size ≤ gb354)); have n5_ := Aside0.mk ((by rw [hg]; exact (below_size (by repeat (first | (with_reducible first | exact HB.out | apply below_alloc | apply pw_below_drewN | apply below_drew1 | refine below_set ?_ GE339.out) | exact HB.out))) : w.heap.size ≤ gb354)); have n6_ := Aside0.mk ((by rw [hg]; exact Nat.ne_of_lt (blk_lt (g := gb339) (o := .cells #[.int .i64 a0_0, .int .i64 a0_1, .int .i64 a0_2, .int .i64 a0_3, .int .i64 a0_4, .int .i64 a0_5, .int .i64 a0_6, .int .i64 a0_7, .int .i64 a0_8, .int .i64 a0_9, .slice A0_10 l0_10.length c0_10] 29 (0, 0)) (by (with_reducible repeat (first | refine blk_drewN ?_ _ | refine blk_drew ?_ | refine blk_alloc ?_ _)); exact BK339.out)) : gb339 ≠ gb354)); have n7_ := Aside0.mk ((by rw [hg]; exact Nat.ne_of_gt (blk_lt (g := gb339) (o := .cells #[.int .i64 a0_0, .int .i64 a0_1, .int .i64 a0_2, .int .i64 a0_3, .int .i64 a0_4, .int .i64 a0_5, .int .i64 a0_6, .int .i64 a0_7, .int .i64 a0_8, .int .i64 a0_9, .slice A0_10 l0_10.length c0_10] 29 (0, 0)) (by (with_reducible repeat (first | refine blk_drewN ?_ _ | refine blk_drew ?_ | refine blk_alloc ?_ _)); exact BK339.out)) : gb354 ≠ gb339)); clear HO352; clear BK339; clear HB; have HO352 := n0_; have BK339 := n1_; have HB := n2_; have BK354 := n3_; have GW354 := n4_; have GE354 := n5_; have NB339_354 := n6_; have NB354_339 := n7_; clear n0_ n1_ n2_ n3_ n4_ n5_ n6_ n7_; clear hb hbox hg; have hnb10 := NB354_339.out; have hnc10 := NB339_354.out; have hcz11_0 : w9.cell? ⟨gb354, 0, none⟩ = some (.int .i64 0) := (blk_cell BK354.out 0).trans rfl; have hcz11_1 : w9.cell? ⟨gb354, 1, none⟩ = some (.int .i64 0) := (blk_cell BK354.out 1).trans rfl; have hcz11_2 : w9.cell? ⟨gb354, 2, none⟩ = some (.int .i64 0) := (blk_cell BK354.out 2).trans rfl; have hcz11_3 : w9.cell? ⟨gb354, 3, none⟩ = some (.int .i64 0) := (blk_cell BK354.out 3).trans rfl; have hcz11_4 : w9.cell? ⟨gb354, 4, none⟩ = some (.int .i64 0) := (blk_cell BK354.out 4).trans rfl; have hcz11_5 : w9.cell? ⟨gb354, 5, none⟩ = some (.int .i64 0) := (blk_cell BK354.out 5).trans rfl; have hcz11_6 : w9.cell? ⟨gb354, 6, none⟩ = some (.int .i64 0) := (blk_cell BK354.out 6).trans rfl; have hcz11_7 : w9.cell? ⟨gb354, 7, none⟩ = some (.int .i64 0) := (blk_cell BK354.out 7).trans rfl; have hcz11_8 : w9.cell? ⟨gb354, 8, none⟩ = some (.int .i64 0) := (blk_cell BK354.out 8).trans rfl; have hcz11_9 : w9.cell? ⟨gb354, 9, none⟩ = some (.int .i64 0) := (blk_cell BK354.out 9).trans rfl; have hcz11_10 : w9.cell? ⟨gb354, 10, none⟩ = some (.slice none 0 0) := (blk_cell BK354.out 10).trans rfl; have hfz11_0 := blk_frozen BK354.out 0; have hfz11_1 := blk_frozen BK354.out 1; have hfz11_2 := blk_frozen BK354.out 2; have hfz11_3 := blk_frozen BK354.out 3; have hfz11_4 := blk_frozen BK354.out 4; have hfz11_5 := blk_frozen BK354.out 5; have hfz11_6 := blk_frozen BK354.out 6; have hfz11_7 := blk_frozen BK354.out 7; have hfz11_8 := blk_frozen BK354.out 8; have hfz11_9 := blk_frozen BK354.out 9; have hfz11_10 := blk_frozen BK354.out 10; obtain ⟨Ao12, co12, eo12⟩ := Kd.V_slice HO352.out; subst eo12) | ((with_reducible refine gate_callee (f := 16) rfl ?_); refine goesL_ (some 19) rfl rfl Tryd.func16 (by kernel_rfl) rfl #[.agg #[.int .i64 t340, .int .i64 t341, .int .i64 t342, .int .i64 t343, .int .i64 t344, .int .i64 t345, .int .i64 t346, .int .i64 t347, .int .i64 t348, .int .i64 t349, .slice Ao12 t350.length co12], .int .i64 a1, .bool false] rfl (by (try simp only [List.map_toArray, List.map_cons, List.map_nil]); first | done | rfl | (simp only [List.length_drop, List.length_take]; rfl)) ?_; (with_reducible refine (quiet_hours_first.calls k t340 t341 t342 t343 t344 t345 t346 t347 t348 t349 _ _ t350 a1 false t355 t356 _ ?side1 ?side2 A5.out ?hg_).mono ?_); (case hg_ => first | ((with_reducible repeat (first | apply GB_drewN | apply GB_drew)); with_reducible exact HG) | exact GB_below HG (by repeat (first | (with_reducible first | exact HB.out | apply below_alloc | apply pw_below_drewN | apply below_drew1 | refine below_set ?_ GE339.out | refine below_set ?_ GE354.out) | exact HB.out))); (case side1 => refine (Kd.V_reads' (e := 45) (base := w.heap.size) (ok := fun k_ => (k_ ≠ gb339 ∧ k_ ≠ gb354)) (n := t350.length) (c := co12) ?_).2.2; exact (by (with_reducible repeat (first | apply Kd.V_alloc | apply Kd.V_drewN | apply Kd.V_drew)); exact (Kd.V_mono (Kd.V_far (p := ⟨gb354, 10, none⟩) (Kd.V_far (p := ⟨gb354, 9, none⟩) (Kd.V_far (p := ⟨gb354, 8, none⟩) (Kd.V_far (p := ⟨gb354, 7, none⟩) (Kd.V_far (p := ⟨gb354, 6, none⟩) (Kd.V_far (p := ⟨gb354, 5, none⟩) (Kd.V_far (p := ⟨gb354, 4, none⟩) (Kd.V_far (p := ⟨gb354, 3, none⟩) (Kd.V_far (p := ⟨gb354, 2, none⟩) (Kd.V_far (p := ⟨gb354, 1, none⟩) (Kd.V_far (p := ⟨gb354, 0, none⟩) (Kd.V_mono HO352.out (fun k_ hk => (⟨hk, hk.2⟩ : _ ∧ k_ ≠ gb354))) (fun _ hk => hk.2) (.int .i64 t340)) (fun _ hk => hk.2) (.int .i64 t341)) (fun _ hk => hk.2) (.int .i64 t342)) (fun _ hk => hk.2) (.int .i64 t343)) (fun _ hk => hk.2) (.int .i64 t344)) (fun _ hk => hk.2) (.int .i64 t345)) (fun _ hk => hk.2) (.int .i64 t346)) (fun _ hk => hk.2) (.int .i64 t347)) (fun _ hk => hk.2) (.int .i64 t348)) (fun _ hk => hk.2) (.int .i64 t349)) (fun _ hk => hk.2) (.slice Ao12 t350.length co12)) (fun _ h_ => h_.1)))); (case side2 => exact (Kd.V_reads' HO352.out).2.1); rintro e w13 ⟨rfl, hb⟩; refine ⟨_, rfl, ?_⟩; have n0_ := Aside0.mk (Kd.V_below (by (with_reducible repeat (first | apply Kd.V_alloc | apply Kd.V_drewN | apply Kd.V_drew)); exact (Kd.V_mono (Kd.V_far (p := ⟨gb354, 10, none⟩) (Kd.V_far (p := ⟨gb354, 9, none⟩) (Kd.V_far (p := ⟨gb354, 8, none⟩) (Kd.V_far (p := ⟨gb354, 7, none⟩) (Kd.V_far (p := ⟨gb354, 6, none⟩) (Kd.V_far (p := ⟨gb354, 5, none⟩) (Kd.V_far (p := ⟨gb354, 4, none⟩) (Kd.V_far (p := ⟨gb354, 3, none⟩) (Kd.V_far (p := ⟨gb354, 2, none⟩) (Kd.V_far (p := ⟨gb354, 1, none⟩) (Kd.V_far (p := ⟨gb354, 0, none⟩) (Kd.V_mono HO352.out (fun k_ hk => (⟨hk, hk.2⟩ : _ ∧ k_ ≠ gb354))) (fun _ hk => hk.2) (.int .i64 t340)) (fun _ hk => hk.2) (.int .i64 t341)) (fun _ hk => hk.2) (.int .i64 t342)) (fun _ hk => hk.2) (.int .i64 t343)) (fun _ hk => hk.2) (.int .i64 t344)) (fun _ hk => hk.2) (.int .i64 t345)) (fun _ hk => hk.2) (.int .i64 t346)) (fun _ hk => hk.2) (.int .i64 t347)) (fun _ hk => hk.2) (.int .i64 t348)) (fun _ hk => hk.2) (.int .i64 t349)) (fun _ hk => hk.2) (.slice Ao12 t350.length co12)) (fun _ h_ => h_.1))) hb); have n1_ := Aside0.mk (blk_below (g := gb339) (o := .cells #[.int .i64 a0_0, .int .i64 a0_1, .int .i64 a0_2, .int .i64 a0_3, .int .i64 a0_4, .int .i64 a0_5, .int .i64 a0_6, .int .i64 a0_7, .int .i64 a0_8, .int .i64 a0_9, .slice A0_10 l0_10.length c0_10] 29 (0, 0)) (by (with_reducible repeat (first | refine blk_drewN ?_ _ | refine blk_drew ?_ | refine blk_alloc ?_ _)); refine blk_far ?_ NB339_354.out _; (with_reducible repeat (first | refine blk_drewN ?_ _ | refine blk_drew ?_ | refine blk_alloc ?_ _)); refine blk_far ?_ NB339_354.out _; (with_reducible repeat (first | refine blk_drewN ?_ _ | refine blk_drew ?_ | refine blk_alloc ?_ _)); refine blk_far ?_ NB339_354.out _; (with_reducible repeat (first | refine blk_drewN ?_ _ | refine blk_drew ?_ | refine blk_alloc ?_ _)); refine blk_far ?_ NB339_354.out _; (with_reducible repeat (first | refine blk_drewN ?_ _ | refine blk_drew ?_ | refine blk_alloc ?_ _)); refine blk_far ?_ NB339_354.out _; (with_reducible repeat (first | refine blk_drewN ?_ _ | refine blk_drew ?_ | refine blk_alloc ?_ _)); refine blk_far ?_ NB339_354.out _; (with_reducible repeat (first | refine blk_drewN ?_ _ | refine blk_drew ?_ | refine blk_alloc ?_ _)); refine blk_far ?_ NB339_354.out _; (with_reducible repeat (first | refine blk_drewN ?_ _ | refine blk_drew ?_ | refine blk_alloc ?_ _)); refine blk_far ?_ NB339_354.out _; (with_reducible repeat (first | refine blk_drewN ?_ _ | refine blk_drew ?_ | refine blk_alloc ?_ _)); refine blk_far ?_ NB339_354.out _; (with_reducible repeat (first | refine blk_drewN ?_ _ | refine blk_drew ?_ | refine blk_alloc ?_ _)); refine blk_far ?_ NB339_354.out _; (with_reducible repeat (first | refine blk_drewN ?_ _ | refine blk_drew ?_ | refine blk_alloc ?_ _)); refine blk_far ?_ NB339_354.out _; (with_reducible repeat (first | refine blk_drewN ?_ _ | refine blk_drew ?_ | refine blk_alloc ?_ _)); exact BK339.out) hb); have n2_ := Aside0.mk (blk_below (g := gb354) (o := .cells #[.int .i64 t340, .int .i64 t341, .int .i64 t342, .int .i64 t343, .int .i64 t344, .int .i64 t345, .int .i64 t346, .int .i64 t347, .int .i64 t348, .int .i64 t349, .slice Ao12 t350.length co12] 47 (0, 0)) (by (with_reducible repeat (first | refine blk_drewN ?_ _ | refine blk_drew ?_ | refine blk_alloc ?_ _)); refine blk_put (cs := #[.int .i64 t340, .int .i64 t341, .int .i64 t342, .int .i64 t343, .int .i64 t344, .int .i64 t345, .int .i64 t346, .int .i64 t347, .int .i64 t348, .int .i64 t349, .slice none 0 0]) ?_ 10 _ rfl; (with_reducible repeat (first | refine blk_drewN ?_ _ | refine blk_drew ?_ | refine blk_alloc ?_ _)); refine blk_put (cs := #[.int .i64 t340, .int .i64 t341, .int .i64 t342, .int .i64 t343, .int .i64 t344, .int .i64 t345, .int .i64 t346, .int .i64 t347, .int .i64 t348, .int .i64 0, .slice none 0 0]) ?_ 9 _ rfl; (with_reducible repeat (first | refine blk_drewN ?_ _ | refine blk_drew ?_ | refine blk_alloc ?_ _)); refine blk_put (cs := #[.int .i64 t340, .int .i64 t341, .int .i64 t342, .int .i64 t343, .int .i64 t344, .int .i64 t345, .int .i64 t346, .int .i64 t347, .int .i64 0, .int .i64 0, .slice none 0 0]) ?_ 8 _ rfl; (with_reducible repeat (first | refine blk_drewN ?_ _ | refine blk_drew ?_ | refine blk_alloc ?_ _)); refine blk_put (cs := #[.int .i64 t340, .int .i64 t341, .int .i64 t342, .int .i64 t343, .int .i64 t344, .int .i64 t345, .int .i64 t346, .int .i64 0, .int .i64 0, .int .i64 0, .slice none 0 0]) ?_ 7 _ rfl; (with_reducible repeat (first | refine blk_drewN ?_ _ | refine blk_drew ?_ | refine blk_alloc ?_ _)); refine blk_put (cs := #[.int .i64 t340, .int .i64 t341, .int .i64 t342, .int .i64 t343, .int .i64 t344, .int .i64 t345, .int .i64 0, .int .i64 0, .int .i64 0, .int .i64 0, .slice none 0 0]) ?_ 6 _ rfl; (with_reducible repeat (first | refine blk_drewN ?_ _ | refine blk_drew ?_ | refine blk_alloc ?_ _)); refine blk_put (cs := #[.int .i64 t340, .int .i64 t341, .int .i64 t342, .int .i64 t343, .int .i64 t344, .int .i64 0, .int .i64 0, .int .i64 0, .int .i64 0, .int .i64 0, .slice none 0 0]) ?_ 5 _ rfl; (with_reducible repeat (first | refine blk_drewN ?_ _ | refine blk_drew ?_ | refine blk_alloc ?_ _)); refine blk_put (cs := #[.int .i64 t340, .int .i64 t341, .int .i64 t342, .int .i64 t343, .int .i64 0, .int .i64 0, .int .i64 0, .int .i64 0, .int .i64 0, .int .i64 0, .slice none 0 0]) ?_ 4 _ rfl; (with_reducible repeat (first | refine blk_drewN ?_ _ | refine blk_drew ?_ | refine blk_alloc ?_ _)); refine blk_put (cs := #[.int .i64 t340, .int .i64 t341, .int .i64 t342, .int .i64 0, .int .i64 0, .int .i64 0, .int .i64 0, .int .i64 0, .int .i64 0, .int .i64 0, .slice none 0 0]) ?_ 3 _ rfl; (with_reducible repeat (first | refine blk_drewN ?_ _ | refine blk_drew ?_ | refine blk_alloc ?_ _)); refine blk_put (cs := #[.int .i64 t340, .int .i64 t341, .int .i64 0, .int .i64 0, .int .i64 0, .int .i64 0, .int .i64 0, .int .i64 0, .int .i64 0, .int .i64 0, .slice none 0 0]) ?_ 2 _ rfl; (with_reducible repeat (first | refine blk_drewN ?_ _ | refine blk_drew ?_ | refine blk_alloc ?_ _)); refine blk_put (cs := #[.int .i64 t340, .int .i64 0, .int .i64 0, .int .i64 0, .int .i64 0, .int .i64 0, .int .i64 0, .int .i64 0, .int .i64 0, .int .i64 0, .slice none 0 0]) ?_ 1 _ rfl; (with_reducible repeat (first | refine blk_drewN ?_ _ | refine blk_drew ?_ | refine blk_alloc ?_ _)); refine blk_put (cs := #[.int .i64 0, .int .i64 0, .int .i64 0, .int .i64 0, .int .i64 0, .int .i64 0, .int .i64 0, .int .i64 0, .int .i64 0, .int .i64 0, .slice none 0 0]) ?_ 0 _ rfl; (with_reducible repeat (first | refine blk_drewN ?_ _ | refine blk_drew ?_ | refine blk_alloc ?_ _)); exact BK354.out) hb); have n3_ := Aside0.mk (below_step (by repeat (first | (with_reducible first | exact HB.out | apply below_alloc | apply pw_below_drewN | apply below_drew1 | refine below_set ?_ GE339.out | refine below_set ?_ GE354.out) | exact HB.out)) hb); clear HO352; clear BK339; clear BK354; clear HB; have HO352 := n0_; have BK339 := n1_; have BK354 := n2_; have HB := n3_; clear n0_ n1_ n2_ n3_; (try clear hb); (try clear hb2); (try clear hk); (try clear hi)))
  go_ret2
  exact ⟨by first | rfl | (simp [errW_none, errW_some] <;> rfl) | (simp [*, errW_none, errW_some] <;> rfl), by repeat (first | (with_reducible first | exact HB.out | apply below_alloc | apply pw_below_drewN | apply below_drew1 | refine below_set ?_ GE339.out | refine below_set ?_ GE354.out) | exact HB.out)⟩
 ·rw [if_neg c4] at H
  have c4b0 : (t353 == 0) = false := beq_eq_false_iff_ne.mpr c4
  have c4b1 : (t353 != 0) = true := bne_iff_ne.mpr c4
  simp only [Option.some.injEq, Prod.mk.injEq] at H
  obtain ⟨rfl, rfl⟩ := H
  go_enter Tryd.func8, Tryd.ntmps8
  go_wp2_with (first | ((with_reducible refine gate_dst (N := 2) rfl ?_); refine box_event ?hg (N := 2) ?hd (cs := #[.int .i64 a0_0, .int .i64 a0_1, .int .i64 a0_2, .int .i64 a0_3, .int .i64 a0_4, .int .i64 a0_5, .int .i64 a0_6, .int .i64 a0_7, .int .i64 a0_8, .int .i64 a0_9, .slice A0_10 l0_10.length c0_10]) (t := 29) ?hr ?_; (case hd => rfl); (case hg => rfl); (case hr => first | (go_simp; done) | (go_simp; rfl)); intro gb339 hg w14 hbox hb; have n0_ := Aside0.mk (below_step (by repeat (first | (with_reducible first | exact HB.out | apply below_alloc | apply pw_below_drewN | apply below_drew1) | exact HB.out)) hb); have n1_ := Aside0.mk (hbox); have n2_ := Aside0.mk ((by rw [hg]; exact (below_size (by repeat (first | (with_reducible first | exact HB.out | apply below_alloc | apply pw_below_drewN | apply below_drew1) | exact HB.out))) : w.heap.size ≤ gb339)); have n3_ := Aside0.mk ((by rw [hg]; exact (below_size (by repeat (first | (with_reducible first | exact HB.out | apply below_alloc | apply pw_below_drewN | apply below_drew1) | exact HB.out))) : w.heap.size ≤ gb339)); clear HB; have HB := n0_; have BK339 := n1_; have GW339 := n2_; have GE339 := n3_; clear n0_ n1_ n2_ n3_; clear hb hbox hg; have hcz15_0 : w14.cell? ⟨gb339, 0, none⟩ = some (.int .i64 a0_0) := (blk_cell BK339.out 0).trans rfl; have hcz15_1 : w14.cell? ⟨gb339, 1, none⟩ = some (.int .i64 a0_1) := (blk_cell BK339.out 1).trans rfl; have hcz15_2 : w14.cell? ⟨gb339, 2, none⟩ = some (.int .i64 a0_2) := (blk_cell BK339.out 2).trans rfl; have hcz15_3 : w14.cell? ⟨gb339, 3, none⟩ = some (.int .i64 a0_3) := (blk_cell BK339.out 3).trans rfl; have hcz15_4 : w14.cell? ⟨gb339, 4, none⟩ = some (.int .i64 a0_4) := (blk_cell BK339.out 4).trans rfl; have hcz15_5 : w14.cell? ⟨gb339, 5, none⟩ = some (.int .i64 a0_5) := (blk_cell BK339.out 5).trans rfl; have hcz15_6 : w14.cell? ⟨gb339, 6, none⟩ = some (.int .i64 a0_6) := (blk_cell BK339.out 6).trans rfl; have hcz15_7 : w14.cell? ⟨gb339, 7, none⟩ = some (.int .i64 a0_7) := (blk_cell BK339.out 7).trans rfl; have hcz15_8 : w14.cell? ⟨gb339, 8, none⟩ = some (.int .i64 a0_8) := (blk_cell BK339.out 8).trans rfl; have hcz15_9 : w14.cell? ⟨gb339, 9, none⟩ = some (.int .i64 a0_9) := (blk_cell BK339.out 9).trans rfl; have hcz15_10 : w14.cell? ⟨gb339, 10, none⟩ = some (.slice A0_10 l0_10.length c0_10) := (blk_cell BK339.out 10).trans rfl; have hfz15_0 := blk_frozen BK339.out 0; have hfz15_1 := blk_frozen BK339.out 1; have hfz15_2 := blk_frozen BK339.out 2; have hfz15_3 := blk_frozen BK339.out 3; have hfz15_4 := blk_frozen BK339.out 4; have hfz15_5 := blk_frozen BK339.out 5; have hfz15_6 := blk_frozen BK339.out 6; have hfz15_7 := blk_frozen BK339.out 7; have hfz15_8 := blk_frozen BK339.out 8; have hfz15_9 := blk_frozen BK339.out 9; have hfz15_10 := blk_frozen BK339.out 10) | ((with_reducible refine gate_callee (f := 14) rfl ?_); refine goesL_ (some 11) rfl rfl Tryd.func14 (by kernel_rfl) rfl #[.agg #[.int .i64 a0_0, .int .i64 a0_1, .int .i64 a0_2, .int .i64 a0_3, .int .i64 a0_4, .int .i64 a0_5, .int .i64 a0_6, .int .i64 a0_7, .int .i64 a0_8, .int .i64 a0_9, .slice A0_10 l0_10.length c0_10], .int .i64 a1] rfl (by (try simp only [List.map_toArray, List.map_cons, List.map_nil]); first | done | rfl | (simp only [List.length_drop, List.length_take]; rfl)) ?_; (with_reducible refine (quiet_open.calls k a0_0 a0_1 a0_2 a0_3 a0_4 a0_5 a0_6 a0_7 a0_8 a0_9 (fun k_ => k_ < w.heap.size) _ _ l0_10 a1 t340 t341 t342 t343 t344 t345 t346 t347 t348 t349 t350 t353 _ ?side1 A3.out).mono ?_); (case side1 => exact Kd.V_mk HC0_10.out (Kd.F_below (Kd.C_F k45_heap HR0_10.out) (by repeat (first | (with_reducible first | exact HB.out | apply below_alloc | apply pw_below_drewN | apply below_drew1 | refine below_set ?_ GE339.out) | exact HB.out)))); rintro e w16 ⟨v351, rfl, ho0, hb⟩; refine ⟨_, rfl, ?_⟩; have n0_ := Aside0.mk (Kd.V_lower (Kd.V_mono (ok' := fun k_ => k_ ≠ gb339) ho0 (fun k_ hk_ => Or.elim hk_ (fun hs_ => fun e_ => Nat.not_le.2 hs_ (by rw [e_]; exact GW339.out)) (fun hn_ => (Kd.freshB (g := gb339) (o := .cells #[.int .i64 a0_0, .int .i64 a0_1, .int .i64 a0_2, .int .i64 a0_3, .int .i64 a0_4, .int .i64 a0_5, .int .i64 a0_6, .int .i64 a0_7, .int .i64 a0_8, .int .i64 a0_9, .slice A0_10 l0_10.length c0_10] 29 (0, 0)) (by (with_reducible repeat (first | refine blk_drewN ?_ _ | refine blk_drew ?_ | refine blk_alloc ?_ _)); exact BK339.out) k_ hn_)))) (below_size (by repeat (first | (with_reducible first | exact HB.out | apply below_alloc | apply pw_below_drewN | apply below_drew1 | refine below_set ?_ GE339.out) | exact HB.out)))); have n1_ := Aside0.mk (blk_below (g := gb339) (o := .cells #[.int .i64 a0_0, .int .i64 a0_1, .int .i64 a0_2, .int .i64 a0_3, .int .i64 a0_4, .int .i64 a0_5, .int .i64 a0_6, .int .i64 a0_7, .int .i64 a0_8, .int .i64 a0_9, .slice A0_10 l0_10.length c0_10] 29 (0, 0)) (by (with_reducible repeat (first | refine blk_drewN ?_ _ | refine blk_drew ?_ | refine blk_alloc ?_ _)); exact BK339.out) hb); have n2_ := Aside0.mk (below_step (by repeat (first | (with_reducible first | exact HB.out | apply below_alloc | apply pw_below_drewN | apply below_drew1 | refine below_set ?_ GE339.out) | exact HB.out)) hb); clear BK339; clear HB; have HO352 := n0_; have BK339 := n1_; have HB := n2_; clear n0_ n1_ n2_; (try clear hb); (try clear hb2); (try clear hk); (try clear hi); (try clear ho0)) | ((with_reducible refine gate_dst (N := 6) rfl ?_); refine box_event ?hg (N := 6) ?hd (cs := #[.int .i64 0, .int .i64 0, .int .i64 0, .int .i64 0, .int .i64 0, .int .i64 0, .int .i64 0, .int .i64 0, .int .i64 0, .int .i64 0, .slice none 0 0]) (t := 47) ?hr ?_; (case hd => rfl); (case hg => rfl); (case hr => first | (go_simp; done) | (go_simp; rfl)); intro gb354 hg w17 hbox hb; have n0_ := Aside0.mk (Kd.V_below (Kd.V_elderB (by (with_reducible repeat (first | apply Kd.V_alloc | apply Kd.V_drewN | apply Kd.V_drew)); exact HO352.out) gb354 (Nat.le_of_eq hg.symm)) hb); have n1_ := Aside0.mk (blk_below (g := gb339) (o := .cells #[.int .i64 a0_0, .int .i64 a0_1, .int .i64 a0_2, .int .i64 a0_3, .int .i64 a0_4, .int .i64 a0_5, .int .i64 a0_6, .int .i64 a0_7, .int .i64 a0_8, .int .i64 a0_9, .slice A0_10 l0_10.length c0_10] 29 (0, 0)) (by (with_reducible repeat (first | refine blk_drewN ?_ _ | refine blk_drew ?_ | refine blk_alloc ?_ _)); exact BK339.out) hb); have n2_ := Aside0.mk (below_step (by repeat (first | (with_reducible first | exact HB.out | apply below_alloc | apply pw_below_drewN | apply below_drew1 | refine below_set ?_ GE339.out) | exact HB.out)) hb); have n3_ := Aside0.mk (hbox); have n4_ := Aside0.mk ((by rw [hg]; exact (below_size (by repeat (first | (with_reducible first | exact HB.out | apply below_alloc | apply pw_below_drewN | apply below_drew1 | refine below_set ?_ GE339.out) | exact HB.out))) : w.heap.size ≤ gb354)); have n5_ := Aside0.mk ((by rw [hg]; exact (below_size (by repeat (first | (with_reducible first | exact HB.out | apply below_alloc | apply pw_below_drewN | apply below_drew1 | refine below_set ?_ GE339.out) | exact HB.out))) : w.heap.size ≤ gb354)); have n6_ := Aside0.mk ((by rw [hg]; exact Nat.ne_of_lt (blk_lt (g := gb339) (o := .cells #[.int .i64 a0_0, .int .i64 a0_1, .int .i64 a0_2, .int .i64 a0_3, .int .i64 a0_4, .int .i64 a0_5, .int .i64 a0_6, .int .i64 a0_7, .int .i64 a0_8, .int .i64 a0_9, .slice A0_10 l0_10.length c0_10] 29 (0, 0)) (by (with_reducible repeat (first | refine blk_drewN ?_ _ | refine blk_drew ?_ | refine blk_alloc ?_ _)); exact BK339.out)) : gb339 ≠ gb354)); have n7_ := Aside0.mk ((by rw [hg]; exact Nat.ne_of_gt (blk_lt (g := gb339) (o := .cells #[.int .i64 a0_0, .int .i64 a0_1, .int .i64 a0_2, .int .i64 a0_3, .int .i64 a0_4, .int .i64 a0_5, .int .i64 a0_6, .int .i64 a0_7, .int .i64 a0_8, .int .i64 a0_9, .slice A0_10 l0_10.length c0_10] 29 (0, 0)) (by (with_reducible repeat (first | refine blk_drewN ?_ _ | refine blk_drew ?_ | refine blk_alloc ?_ _)); exact BK339.out)) : gb354 ≠ gb339)); clear HO352; clear BK339; clear HB; have HO352 := n0_; have BK339 := n1_; have HB := n2_; have BK354 := n3_; have GW354 := n4_; have GE354 := n5_; have NB339_354 := n6_; have NB354_339 := n7_; clear n0_ n1_ n2_ n3_ n4_ n5_ n6_ n7_; clear hb hbox hg; have hnb18 := NB354_339.out; have hnc18 := NB339_354.out; have hcz19_0 : w17.cell? ⟨gb354, 0, none⟩ = some (.int .i64 0) := (blk_cell BK354.out 0).trans rfl; have hcz19_1 : w17.cell? ⟨gb354, 1, none⟩ = some (.int .i64 0) := (blk_cell BK354.out 1).trans rfl; have hcz19_2 : w17.cell? ⟨gb354, 2, none⟩ = some (.int .i64 0) := (blk_cell BK354.out 2).trans rfl; have hcz19_3 : w17.cell? ⟨gb354, 3, none⟩ = some (.int .i64 0) := (blk_cell BK354.out 3).trans rfl; have hcz19_4 : w17.cell? ⟨gb354, 4, none⟩ = some (.int .i64 0) := (blk_cell BK354.out 4).trans rfl; have hcz19_5 : w17.cell? ⟨gb354, 5, none⟩ = some (.int .i64 0) := (blk_cell BK354.out 5).trans rfl; have hcz19_6 : w17.cell? ⟨gb354, 6, none⟩ = some (.int .i64 0) := (blk_cell BK354.out 6).trans rfl; have hcz19_7 : w17.cell? ⟨gb354, 7, none⟩ = some (.int .i64 0) := (blk_cell BK354.out 7).trans rfl; have hcz19_8 : w17.cell? ⟨gb354, 8, none⟩ = some (.int .i64 0) := (blk_cell BK354.out 8).trans rfl; have hcz19_9 : w17.cell? ⟨gb354, 9, none⟩ = some (.int .i64 0) := (blk_cell BK354.out 9).trans rfl; have hcz19_10 : w17.cell? ⟨gb354, 10, none⟩ = some (.slice none 0 0) := (blk_cell BK354.out 10).trans rfl; have hfz19_0 := blk_frozen BK354.out 0; have hfz19_1 := blk_frozen BK354.out 1; have hfz19_2 := blk_frozen BK354.out 2; have hfz19_3 := blk_frozen BK354.out 3; have hfz19_4 := blk_frozen BK354.out 4; have hfz19_5 := blk_frozen BK354.out 5; have hfz19_6 := blk_frozen BK354.out 6; have hfz19_7 := blk_frozen BK354.out 7; have hfz19_8 := blk_frozen BK354.out 8; have hfz19_9 := blk_frozen BK354.out 9; have hfz19_10 := blk_frozen BK354.out 10; obtain ⟨Ao20, co20, eo20⟩ := Kd.V_slice HO352.out; subst eo20))
  go_ret2
  exact ⟨by first | rfl | (simp [errW_none, errW_some] <;> rfl) | (simp [*, errW_none, errW_some] <;> rfl), by repeat (first | (with_reducible first | exact HB.out | apply below_alloc | apply pw_below_drewN | apply below_drew1 | refine below_set ?_ GE339.out | refine below_set ?_ GE354.out) | exact HB.out)⟩

end Go.Proofs.YtbimjpafgiogcaaDoor.XQ
