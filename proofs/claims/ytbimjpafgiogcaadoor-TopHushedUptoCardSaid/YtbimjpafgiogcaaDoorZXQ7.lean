-- by px.py, a program of this session, over the kit's printer: functions given by hand stand beside printed ones. Lean checks all of it.
import Derived.Deep.QuietTactic
import Derived.BigQuiet
import Derived.Test.YtbimjpafgiogcaaDoorZXQ0
import Derived.Test.YtbimjpafgiogcaaDoorZXQ4
import Derived.Test.YtbimjpafgiogcaaDoorZXQ5
namespace Go.Proofs.YtbimjpafgiogcaaDoor.XQ
open Go.RowKit Go.Proofs.YtbimjpafgiogcaaDoorW.PrintWords Go.Proofs.YtbimjpafgiogcaaDoorW.PrintLast Go.Proofs.YtbimjpafgiogcaaDoorW.PrintMore
attribute [local go_sem] max2_int min2_int max_two min_two max_three min_three max_four min_four   -- for this text's walks alone
set_option linter.unusedVariables false
set_option linter.unusedSimpArgs false

mutual
def week_And.l0 : Nat → List (S45) → List (S45) → List (S45) → Option ((List (S45)) × Int)
 | 0, _, _, _ => none
 | k + 1, x0, x1, x7 => if (x0.length : Int) > 0 then (week_And.j1 k x0 x1 x7 (decide ((x1.length : Int) > 0))) else (week_And.j1 k x0 x1 x7 false)
def week_And.j1 : Nat → List (S45) → List (S45) → List (S45) → Bool → Option ((List (S45)) × Int)
 | 0, _, _, _, _ => none
 | k + 1, x0, x1, x7, x23 => if x23 = true then (if 0 < (x0.length : Int) then (if 0 < (x1.length : Int) then (if (mx ((rd_T45 x0 0).f0) ((rd_T45 x1 0).f0)) < (mn ((rd_T45 x0 0).f1) ((rd_T45 x1 0).f1)) then (if x7.length < 8796093022208 then ((some (x7 ++ [(⟨mx ((rd_T45 x0 0).f0) ((rd_T45 x1 0).f0), mn ((rd_T45 x0 0).f1) ((rd_T45 x1 0).f1)⟩ : S45)] : List (S45))).bind fun y139 => (if ((rd_T45 x0 0).f1) < ((rd_T45 x1 0).f1) then (if 1 ≤ (x0.length : Int) then (week_And.l0 k (x0.drop 1) x1 y139) else (none)) else (if 1 ≤ (x1.length : Int) then (week_And.l0 k x0 (x1.drop 1) y139) else (none)))) else (none)) else (if ((rd_T45 x0 0).f1) < ((rd_T45 x1 0).f1) then (if 1 ≤ (x0.length : Int) then (week_And.l0 k (x0.drop 1) x1 x7) else (none)) else (if 1 ≤ (x1.length : Int) then (week_And.l0 k x0 (x1.drop 1) x7) else (none)))) else (none)) else (none)) else ((week_join.f k x7).bind fun bt130 => (some (bt130.1, bt130.2)))
end
def week_And.f (k : Nat) (l0 : List (S45)) (l1 : List (S45)) : Option ((List (S45)) × Int) := (week_checked.f k (([l0, l1] : List (List (S45))))).bind fun t129 => (if t129 = 0 then (week_And.l0 k l0 l1 ([] : List (S45))) else (some (([] : List (S45)), t129)))
def week_And.T6 : Bool × List (List Nat × List Nat) := (true, [([], []), ([0], [0]), ([1], [1]), ([2], [2]), ([], []), ([4], [4]), ([5], [5]), ([6], [6]), ([3, 7], [3, 7]), ([], []), ([9], [9]), ([10], [10]), ([11], [11]), ([], []), ([13], [13]), ([14], [14]), ([15], [15]), ([12, 16], [12, 16]), ([8, 17], [8, 17]), ([], []), ([19, 18, 0, 1, 2, 3, 4, 5, 6, 7, 8, 9, 10, 11, 12, 13, 14, 15, 16, 17, 18, 19], [18, 19])])
def week_And.B6 : List Nat := [0, 1, 3, 7, 0, 16, 48, 112, 255, 0, 512, 1536, 3584, 0, 8192, 24576, 57344, 130560, 262143, 0, 1048575]
theorem week_And.tab6 : rtab .any (opsOf Tryd.f6 6) = week_And.T6 := by kernel_rfl
theorem week_And.bits6 : waitsOk week_And.T6.2 week_And.B6 = true := by kernel_rfl
set_option maxHeartbeats 8000000 in
set_option maxRecDepth 100000 in
theorem week_And.calls (k : Nat) (P0_ : Nat → Prop) (A0 : Option Addr) (c0 : Nat) (l0 : List (S45)) (P1_ : Nat → Prop) (A1 : Option Addr) (c1 : Nat) (l1 : List (S45)) (r1 : List (S45)) (r2 : Int) (w : World) (hs0 : Kd.V k45 45 w w.heap.size (fun k_ => P0_ k_) (.slice A0 l0.length c0) l0) (hs1 : Kd.V k45 45 w w.heap.size (fun k_ => P1_ k_) (.slice A1 l1.length c1) l1) (h : week_And.f k l0 l1 = some (r1, r2)) :
  Calls Tryd.prog 6 #[.slice A0 l0.length c0, .slice A1 l1.length c1] w fun e w' => ∃ v0_ : Value, e = .returned (.tuple #[v0_, .int .i64 r2]) ∧ Kd.R k45 45 w' w.heap.size (fun k_ => (w.heap.size ≤ k_)) v0_ r1 ∧ Below w.heap.size w w' := by
 have hu45 := Tryd.underlying45
 have HO0 := Aside0.mk (show Kd.V k45 45 w w.heap.size (fun k_ => ((P0_ k_ ∨ P1_ k_) ∨ w.heap.size ≤ k_)) (.slice A0 l0.length c0) l0 from Kd.V_mono hs0 (fun k_ hk => .inl (.inl hk)))
 have HO1 := Aside0.mk (show Kd.V k45 45 w w.heap.size (fun k_ => ((P0_ k_ ∨ P1_ k_) ∨ w.heap.size ≤ k_)) (.slice A1 l1.length c1) l1 from Kd.V_mono hs1 (fun k_ hk => .inl (.inr hk)))
 have HC0 := Aside0.mk (Kd.V_reads' hs0).2.2
 have HC1 := Aside0.mk (Kd.V_reads' hs1).2.2
 have HL0 := Aside0.mk (Kd.V_reads' hs0).2.1
 have HL1 := Aside0.mk (Kd.V_reads' hs1).2.1
 have HB := Aside0.mk (Below.refl w.heap.size w)
 have H : ((week_checked.f k (([l0, l1] : List (List (S45))))).bind fun t129 => (if t129 = 0 then (week_And.l0 k l0 l1 ([] : List (S45))) else (some (([] : List (S45)), t129)))) = some (r1, r2) := h
 clear h
 obtain ⟨y126, hy126⟩ : ∃ y_ : List (List (S45)), y_ = (([l0, l1] : List (List (S45)))) := ⟨_, rfl⟩
 replace H : ((week_checked.f k y126).bind fun t129 => (if t129 = 0 then (week_And.l0 k l0 l1 ([] : List (S45))) else (some (([] : List (S45)), t129)))) = some (r1, r2) := by first | (rw [hy126]; with_reducible exact H) | (have H2_ := (Option.bind_some _ _).symm.trans H; rw [hy126]; with_reducible exact H2_) | (have H2_ := (Option.bind_some _ _).symm.trans H; with_reducible exact H2_) | with_reducible exact H | (rw [hy126]; exact H) | exact H
 have Ny126 := Aside0.mk hy126
 clear hy126
 replace H := Option.bind_eq_some_iff.mp H
 obtain ⟨t129, A30, H⟩ := H
 replace H : (if t129 = 0 then (week_And.l0 k l0 l1 ([] : List (S45))) else (some (([] : List (S45)), t129))) = some (r1, r2) := H
 have A3 := Aside0.mk A30
 clear A30
 by_cases c4 : t129 = 0
 ·rw [if_pos c4] at H
  have c4b0 : (t129 == 0) = true := beq_iff_eq.mpr c4
  have c4b1 : (t129 != 0) = false := bne_eq_false_iff_eq.mpr c4
  clear c4
  have H' := Aside0.mk H
  clear H
  go_enter Tryd.func6, Tryd.ntmps6
  go_wp2_with (first | ((with_reducible refine gate_dst (N := 11) rfl ?_); (try (refine gate_guard (by rfl) ?_; dsimp only)); refine Kd.N_lit (Kd.slice 45 k45) _ 26 ?hg (N' := 11) ?hd (xs := ([l0, l1] : List (List (S45)))) (inner := [.slice A0 l0.length c0, .slice A1 l1.length c1]) (ok := (fun k_ => ((P0_ k_ ∨ P1_ k_) ∨ w.heap.size ≤ k_))) (okp := (fun k_ => ((P0_ k_ ∨ P1_ k_) ∨ w.heap.size ≤ k_))) ?hr ?hp (fun _ hk => hk) ((show ∀ k_, w.heap.size ≤ k_ → (fun k_ => ((P0_ k_ ∨ P1_ k_) ∨ w.heap.size ≤ k_)) k_ from fun k_ hk => (.inr (Nat.le_trans (below_size (by repeat (first | (with_reducible first | exact HB.out | apply below_alloc | apply pw_below_drewN | apply below_drew1) | exact HB.out))) hk))) _ (Nat.le_refl _)) (Below.refl _ _) (Nat.le_refl _) (by simp) ?_; (case hd => rfl); (case hg => rfl); (case hr => first | (go_simp; done) | (go_simp; rfl)); (case hp => exact (Reps.one (show Kd.FK (Kd.slice 45 k45) _ _ l0 [.slice A0 l0.length c0] from (Kd.FK_slice_mk (Kd.V_reads' (Kd.V_mono (ok' := (fun k_ => ((P0_ k_ ∨ P1_ k_) ∨ w.heap.size ≤ k_))) (HO0.out) (fun k_ hk => hk))).2.1 (Kd.V_F (Kd.V_mono (ok' := (fun k_ => ((P0_ k_ ∨ P1_ k_) ∨ w.heap.size ≤ k_))) (HO0.out) (fun k_ hk => hk))))) (Reps.one (show Kd.FK (Kd.slice 45 k45) _ _ l1 [.slice A1 l1.length c1] from (Kd.FK_slice_mk (Kd.V_reads' (Kd.V_mono (ok' := (fun k_ => ((P0_ k_ ∨ P1_ k_) ∨ w.heap.size ≤ k_))) (HO1.out) (fun k_ hk => hk))).2.1 (Kd.V_F (Kd.V_mono (ok' := (fun k_ => ((P0_ k_ ∨ P1_ k_) ∨ w.heap.size ≤ k_))) (HO1.out) (fun k_ hk => hk))))) (Reps.none _ _)))); intro v127 w5 ho6 hb hg_ hnew_; clear hg_ hnew_; (first | rw [← Ny126.out] at ho6 | (simp only [Int.reduceToNat] at ho6; rw [← Ny126.out] at ho6)); have n0_ := Aside0.mk (Kd.V_elder' (by (with_reducible repeat (first | apply Kd.V_alloc | apply Kd.V_drewN | apply Kd.V_drew)); exact HO0.out) (Kd.N_base ho6) hb); have n1_ := Aside0.mk (Kd.V_elder' (by (with_reducible repeat (first | apply Kd.V_alloc | apply Kd.V_drewN | apply Kd.V_drew)); exact HO1.out) (Kd.N_base ho6) hb); have n2_ := Aside0.mk (Kd.N_lower ho6 (below_size (by repeat (first | (with_reducible first | exact HB.out | apply below_alloc | apply pw_below_drewN | apply below_drew1) | exact HB.out)))); have n3_ := Aside0.mk (below_step (by repeat (first | (with_reducible first | exact HB.out | apply below_alloc | apply pw_below_drewN | apply below_drew1) | exact HB.out)) hb); clear HO0; clear HO1; clear HB; have HO0 := n0_; have HO1 := n1_; have HO128 := n2_; have HB := n3_; clear n0_ n1_ n2_ n3_; clear hb ho6; obtain ⟨Ao7, co7, eo7⟩ := Kd.N_slice HO128.out; subst eo7) | ((with_reducible refine gate_callee (f := 11) rfl ?_); refine goesL_ (some 12) rfl rfl Tryd.func11 (by kernel_rfl) rfl #[.slice Ao7 y126.length co7] rfl (by (try simp only [List.map_toArray, List.map_cons, List.map_nil]); first | done | rfl | (simp only [List.length_drop, List.length_take]; rfl)) ?_; (with_reducible refine (week_checked.calls k _ _ y126 t129 _ ?side1 ?side2 A3.out).mono ?_); (case side1 => repeat (first | exact (Kd.N_reads' HO128.out).2.2 | (with_reducible refine Kd.C_alloc ?_ _) | (with_reducible refine Kd.C_drewN ?_ _) | (with_reducible refine Kd.C_drew ?_))); (case side2 => exact (Kd.N_reads' HO128.out).2.1); rintro e w8 ⟨rfl, hb⟩; refine ⟨_, rfl, ?_⟩; have n0_ := Aside0.mk (Kd.V_below (by (with_reducible repeat (first | apply Kd.V_alloc | apply Kd.V_drewN | apply Kd.V_drew)); exact HO0.out) hb); have n1_ := Aside0.mk (Kd.V_below (by (with_reducible repeat (first | apply Kd.V_alloc | apply Kd.V_drewN | apply Kd.V_drew)); exact HO1.out) hb); have n2_ := Aside0.mk (Kd.N_below (by (with_reducible repeat (first | apply Kd.N_alloc | apply Kd.N_drewN | apply Kd.N_drew)); exact HO128.out) hb); have n3_ := Aside0.mk (below_step (by repeat (first | (with_reducible first | exact HB.out | apply below_alloc | apply pw_below_drewN | apply below_drew1) | exact HB.out)) hb); clear HO0; clear HO1; clear HO128; clear HB; have HO0 := n0_; have HO1 := n1_; have HO128 := n2_; have HB := n3_; clear n0_ n1_ n2_ n3_; (try clear hb); (try clear hb2); (try clear hk); (try clear hi)))
  clear HO0 HO1 HO128
  go_loopg [0, 1, 7] k (fun kq v0 v1 v7 w' => ∃ (Aa : Option Addr) (ca : Nat) (x0 : List (S45)) (Ab : Option Addr) (cb : Nat) (x1 : List (S45)) (x7 : List (S45)), v0 = .slice Aa x0.length ca ∧ v1 = .slice Ab x1.length cb ∧ Aside0 (x0.length ≤ ca) ∧ Aside0 (x1.length ≤ cb) ∧ Aside0 (Kd.C k45 w Aa x0.length x0) ∧ Aside0 (Kd.C k45 w Ab x1.length x1) ∧ Aside0 (week_And.l0 kq x0 x1 x7 = some (r1, r2)) ∧ Aside0 (kq ≤ k) ∧ Aside0 (Kd.R k45 45 w' w.heap.size (fun k_ => (w.heap.size ≤ k_)) v7 x7) ∧ Aside0 (Below w.heap.size w w'))
  case atStart => exact ⟨_, _, l0, _, _, l1, [], rfl, rfl, HL0, HL1, HC0, HC1, H', ⟨Nat.le_refl _⟩, ⟨Kd.R_nil _ _ _ _ _⟩, HB⟩
  case round =>
    clear H' HL0 HL1 HC0 HC1 HB
    try clear c4b0
    try clear c4b1
    obtain ⟨Aa, ca, x0, Ab, cb, x1, x7, rfl, rfl, HL0, HL1, HC0, HC1, HA, HK, HO, HB⟩ := hrel
    cases gk with
    | zero => exact absurd HA.out (by simp [week_And.l0])
    | succ k1 =>
    have H := HA.out
    clear HA
    simp only [week_And.l0, gt_iff_lt] at H
    by_cases c0 : 0 < (x0.length : Int)
    rotate_left
    · rw [if_neg c0] at H
      have c0b : decide (0 < (x0.length : Int)) = false := decide_eq_false c0
      have c0c : decide (0 < x0.length) = false := decide_eq_false (by omega)
      cases k1 with
      | zero => exact absurd H (by simp [week_And.j1])
      | succ k2 =>
      simp only [week_And.j1] at H
      rw [if_neg (show ¬ (false = true) by decide)] at H
      obtain ⟨⟨t200, t203⟩, A67, H⟩ := Option.bind_eq_some_iff.mp H
      simp only [Option.some.injEq, Prod.mk.injEq] at H
      obtain ⟨rfl, rfl⟩ := H
      replace A67 := Aside0.mk A67
      clear c0
      obtain ⟨Ao68, co68, eo68⟩ := Kd.R_slice HO.out
      subst eo68
      go_wp2_with (go_at_call 12; refine (week_join.calls k2 (fun k_ => some k_ = (.slice Ao68 x7.length co68 : Value).ownBlock) (.slice Ao68 x7.length co68) x7 t200 t203 w _ ?side1 ?side2 A67.out).mono ?_; (case side1 => exact HB.out); (case side2 => exact Kd.R_tight rfl HO.out); rintro e w69 ⟨v201, rfl, ho0, hb, hkp⟩; have n2_ := Aside0.mk (Kd.R_mono (ok' := fun k_ => (w.heap.size ≤ k_)) ho0 (fun k_ hk_ => Or.elim hk_ (fun hs_ => (HO.out.1 k_ (hs_).symm)) (fun hn_ => (Nat.le_trans (below_size HB.out) hn_)))); have n3_ := Aside0.mk (hb); clear HB HO; have HO := n2_; have HB := n3_; clear n2_ n3_ hb hkp ho0)
      go_ret2
      exact ⟨_, rfl, HO.out, HB.out⟩
    rw [if_pos c0] at H
    have c0b : decide (0 < (x0.length : Int)) = true := decide_eq_true c0
    have c0c : decide (0 < x0.length) = true := decide_eq_true (by omega)
    by_cases c1 : 0 < (x1.length : Int)
    rotate_left
    · have c1b : decide (0 < (x1.length : Int)) = false := decide_eq_false c1
      have c1c : decide (0 < x1.length) = false := decide_eq_false (by omega)
      rw [c1b] at H
      cases k1 with
      | zero => exact absurd H (by simp [week_And.j1])
      | succ k2 =>
      simp only [week_And.j1] at H
      rw [if_neg (show ¬ (false = true) by decide)] at H
      obtain ⟨⟨t200, t203⟩, A67, H⟩ := Option.bind_eq_some_iff.mp H
      simp only [Option.some.injEq, Prod.mk.injEq] at H
      obtain ⟨rfl, rfl⟩ := H
      replace A67 := Aside0.mk A67
      clear c0 c1
      obtain ⟨Ao68, co68, eo68⟩ := Kd.R_slice HO.out
      subst eo68
      go_wp2_with (go_at_call 12; refine (week_join.calls k2 (fun k_ => some k_ = (.slice Ao68 x7.length co68 : Value).ownBlock) (.slice Ao68 x7.length co68) x7 t200 t203 w _ ?side1 ?side2 A67.out).mono ?_; (case side1 => exact HB.out); (case side2 => exact Kd.R_tight rfl HO.out); rintro e w69 ⟨v201, rfl, ho0, hb, hkp⟩; have n2_ := Aside0.mk (Kd.R_mono (ok' := fun k_ => (w.heap.size ≤ k_)) ho0 (fun k_ hk_ => Or.elim hk_ (fun hs_ => (HO.out.1 k_ (hs_).symm)) (fun hn_ => (Nat.le_trans (below_size HB.out) hn_)))); have n3_ := Aside0.mk (hb); clear HB HO; have HO := n2_; have HB := n3_; clear n2_ n3_ hb hkp ho0)
      go_ret2
      exact ⟨_, rfl, HO.out, HB.out⟩
    have c1b : decide (0 < (x1.length : Int)) = true := decide_eq_true c1
    have c1c : decide (0 < x1.length) = true := decide_eq_true (by omega)
    rw [c1b] at H
    cases k1 with
    | zero => exact absurd H (by simp [week_And.j1])
    | succ k2 =>
    simp only [week_And.j1] at H
    rw [if_pos trivial, if_pos c0, if_pos c1] at H
    have HH := Aside0.mk H
    clear H
    have qa : (1 : Int) ≤ (x0.length : Int) := c0
    have qb : (1 : Int) ≤ (x1.length : Int) := c1
    obtain ⟨ad0, e0, hx00, hx01⟩ := at_T45 HC0.out (0 : Int) (Int.le_refl 0) c0
    cases e0
    obtain ⟨ad1, e1, hx10, hx11⟩ := at_T45 HC1.out (0 : Int) (Int.le_refl 0) c1
    cases e1
    obtain ⟨i0_, hi0_, _, hsz_, _⟩ := info_parts info45
    have hi0 := Aside0.mk hi0_
    have hsz := Aside0.mk hsz_
    clear hi0_ hsz_
    have hy00 := Aside0.mk (show w.cell? ad0 = some (.int .i64 (rd_T45 x0 0).f0) from hx00)
    have hy01 := Aside0.mk (show w.cell? ⟨ad0.block, ad0.off + 1, none⟩ = some (.int .i64 (rd_T45 x0 0).f1) from hx01)
    have hy10 := Aside0.mk (show w.cell? ad1 = some (.int .i64 (rd_T45 x1 0).f0) from hx10)
    have hy11 := Aside0.mk (show w.cell? ⟨ad1.block, ad1.off + 1, none⟩ = some (.int .i64 (rd_T45 x1 0).f1) from hx11)
    replace hx00 : wr.cell? ad0 = some (.int .i64 (rd_T45 x0 0).f0) := (HB.out.cell (World.block_lt_of_cell? w _ hx00)).trans hx00
    replace hx01 : wr.cell? ⟨ad0.block, ad0.off + 1, none⟩ = some (.int .i64 (rd_T45 x0 0).f1) := (HB.out.cell (World.block_lt_of_cell? w _ hx01)).trans hx01
    replace hx10 : wr.cell? ad1 = some (.int .i64 (rd_T45 x1 0).f0) := (HB.out.cell (World.block_lt_of_cell? w _ hx10)).trans hx10
    replace hx11 : wr.cell? ⟨ad1.block, ad1.off + 1, none⟩ = some (.int .i64 (rd_T45 x1 0).f1) := (HB.out.cell (World.block_lt_of_cell? w _ hx11)).trans hx11
    obtain ⟨ji17, hji17⟩ : ∃ j_ : Int, (mx ((rd_T45 x0 0).f0) ((rd_T45 x1 0).f0)) = j_ := ⟨_, rfl⟩
    obtain ⟨ji18, hji18⟩ : ∃ j_ : Int, (mn ((rd_T45 x0 0).f1) ((rd_T45 x1 0).f1)) = j_ := ⟨_, rfl⟩
    have hji17_ : (if ((rd_T45 x0 0).f0) < ((rd_T45 x1 0).f0) then ((rd_T45 x1 0).f0) else ((rd_T45 x0 0).f0)) = ji17 := hji17
    have hji18_ : (if ((rd_T45 x1 0).f1) < ((rd_T45 x0 0).f1) then ((rd_T45 x1 0).f1) else ((rd_T45 x0 0).f1)) = ji18 := hji18
    have HH1 := HH.out
    rw [hji17, hji18] at HH1
    replace HH := Aside0.mk HH1
    clear HH1
    have qi0 : (0 < x0.length) = True := eq_true (by omega)
    have qi1 : (0 < x1.length) = True := eq_true (by omega)
    have c0e := eq_true c0
    have c1e := eq_true c1
    go_wp2
    refine start_ (n := 21) (S := fun w' => Below w.heap.size w w') (ds := []) #[false, false, false, false, false, false, false, false, false, false, false, false, false, false, false, false, false, false, false, false, false] (by kernel_rfl) rfl rfl (below_drew1 HB.out) (fun hHeld => ?_)
    refine with_tabW week_And.tab6 week_And.bits6 (fun HT_ HW_ => ?_)
    have n0_ := Aside0.mk (Kd.R_drew HO.out)
    clear HO HB hx00 hx01 hx10 hx11
    have HO := n0_
    clear n0_
    generalize wr.drew = wq at HO hHeld ⊢
    refine pure_ (i := 0) (N := some 24) (v := ?_) (a' := ?_) #[true, false, false, false, false, false, false, false, false, false, false, false, false, false, false, false, false, false, false, false, false] rfl rfl (any_of HT_.out (by kernel_rfl)) (fun _ _ _ h => h) (Or.inl ⟨by rfl, ?_⟩) ?_ ?_
    rotate_left
    · intro w'
      go_simp
      with_reducible rfl
    rotate_left
    · simp only [Act.put, List.setIfInBounds_toArray, List.set_cons_zero, List.set_cons_succ, i64_w, i32_w]
      rfl
    refine pure_ (i := 1) (N := some 25) (v := ?_) (a' := ?_) #[true, true, false, false, false, false, false, false, false, false, false, false, false, false, false, false, false, false, false, false, false] rfl rfl (any_of HT_.out (by kernel_rfl)) (fun _ _ _ h => h) (Or.inl ⟨by rfl, ?_⟩) ?_ ?_
    rotate_left
    · intro w'
      go_simp
      with_reducible rfl
    rotate_left
    · simp only [Act.put, List.setIfInBounds_toArray, List.set_cons_zero, List.set_cons_succ, i64_w, i32_w]
      rfl
    refine pure_ (i := 2) (N := some 26) (v := ?_) (a' := ?_) #[true, true, true, false, false, false, false, false, false, false, false, false, false, false, false, false, false, false, false, false, false] rfl rfl (any_of HT_.out (by kernel_rfl)) (fun _ _ _ h => h) (Or.inl ⟨by rfl, ?_⟩) ?_ ?_
    rotate_left
    · intro w'
      go_simp
      with_reducible rfl
    rotate_left
    · simp only [Act.put, List.setIfInBounds_toArray, List.set_cons_zero, List.set_cons_succ, i64_w, i32_w]
      rfl
    refine pure_ (i := 4) (N := some 28) (v := ?_) (a' := ?_) #[true, true, true, false, true, false, false, false, false, false, false, false, false, false, false, false, false, false, false, false, false] rfl rfl (any_of HT_.out (by kernel_rfl)) (fun _ _ _ h => h) (Or.inl ⟨by rfl, ?_⟩) ?_ ?_
    rotate_left
    · intro w'
      go_simp
      with_reducible rfl
    rotate_left
    · simp only [Act.put, List.setIfInBounds_toArray, List.set_cons_zero, List.set_cons_succ, i64_w, i32_w]
      rfl
    refine pure_ (i := 5) (N := some 29) (v := ?_) (a' := ?_) #[true, true, true, false, true, true, false, false, false, false, false, false, false, false, false, false, false, false, false, false, false] rfl rfl (any_of HT_.out (by kernel_rfl)) (fun _ _ _ h => h) (Or.inl ⟨by rfl, ?_⟩) ?_ ?_
    rotate_left
    · intro w'
      go_simp
      with_reducible rfl
    rotate_left
    · simp only [Act.put, List.setIfInBounds_toArray, List.set_cons_zero, List.set_cons_succ, i64_w, i32_w]
      rfl
    refine pure_ (i := 6) (N := some 30) (v := ?_) (a' := ?_) #[true, true, true, false, true, true, true, false, false, false, false, false, false, false, false, false, false, false, false, false, false] rfl rfl (any_of HT_.out (by kernel_rfl)) (fun _ _ _ h => h) (Or.inl ⟨by rfl, ?_⟩) ?_ ?_
    rotate_left
    · intro w'
      go_simp
      with_reducible rfl
    rotate_left
    · simp only [Act.put, List.setIfInBounds_toArray, List.set_cons_zero, List.set_cons_succ, i64_w, i32_w]
      rfl
    refine pure_ (i := 9) (N := some 33) (v := ?_) (a' := ?_) #[true, true, true, false, true, true, true, false, false, true, false, false, false, false, false, false, false, false, false, false, false] rfl rfl (any_of HT_.out (by kernel_rfl)) (fun _ _ _ h => h) (Or.inl ⟨by rfl, ?_⟩) ?_ ?_
    rotate_left
    · intro w'
      go_simp
      with_reducible rfl
    rotate_left
    · simp only [Act.put, List.setIfInBounds_toArray, List.set_cons_zero, List.set_cons_succ, i64_w, i32_w]
      rfl
    refine pure_ (i := 10) (N := some 34) (v := ?_) (a' := ?_) #[true, true, true, false, true, true, true, false, false, true, true, false, false, false, false, false, false, false, false, false, false] rfl rfl (any_of HT_.out (by kernel_rfl)) (fun _ _ _ h => h) (Or.inl ⟨by rfl, ?_⟩) ?_ ?_
    rotate_left
    · intro w'
      go_simp
      with_reducible rfl
    rotate_left
    · simp only [Act.put, List.setIfInBounds_toArray, List.set_cons_zero, List.set_cons_succ, i64_w, i32_w]
      rfl
    refine pure_ (i := 11) (N := some 35) (v := ?_) (a' := ?_) #[true, true, true, false, true, true, true, false, false, true, true, true, false, false, false, false, false, false, false, false, false] rfl rfl (any_of HT_.out (by kernel_rfl)) (fun _ _ _ h => h) (Or.inl ⟨by rfl, ?_⟩) ?_ ?_
    rotate_left
    · intro w'
      go_simp
      with_reducible rfl
    rotate_left
    · simp only [Act.put, List.setIfInBounds_toArray, List.set_cons_zero, List.set_cons_succ, i64_w, i32_w]
      rfl
    refine pure_ (i := 13) (N := some 37) (v := ?_) (a' := ?_) #[true, true, true, false, true, true, true, false, false, true, true, true, false, true, false, false, false, false, false, false, false] rfl rfl (any_of HT_.out (by kernel_rfl)) (fun _ _ _ h => h) (Or.inl ⟨by rfl, ?_⟩) ?_ ?_
    rotate_left
    · intro w'
      go_simp
      with_reducible rfl
    rotate_left
    · simp only [Act.put, List.setIfInBounds_toArray, List.set_cons_zero, List.set_cons_succ, i64_w, i32_w]
      rfl
    refine pure_ (i := 14) (N := some 38) (v := ?_) (a' := ?_) #[true, true, true, false, true, true, true, false, false, true, true, true, false, true, true, false, false, false, false, false, false] rfl rfl (any_of HT_.out (by kernel_rfl)) (fun _ _ _ h => h) (Or.inl ⟨by rfl, ?_⟩) ?_ ?_
    rotate_left
    · intro w'
      go_simp
      with_reducible rfl
    rotate_left
    · simp only [Act.put, List.setIfInBounds_toArray, List.set_cons_zero, List.set_cons_succ, i64_w, i32_w]
      rfl
    refine pure_ (i := 15) (N := some 39) (v := ?_) (a' := ?_) #[true, true, true, false, true, true, true, false, false, true, true, true, false, true, true, true, false, false, false, false, false] rfl rfl (any_of HT_.out (by kernel_rfl)) (fun _ _ _ h => h) (Or.inl ⟨by rfl, ?_⟩) ?_ ?_
    rotate_left
    · intro w'
      go_simp
      with_reducible rfl
    rotate_left
    · simp only [Act.put, List.setIfInBounds_toArray, List.set_cons_zero, List.set_cons_succ, i64_w, i32_w]
      rfl
    refine take_ (i := 3) (N := some 27) (v := ?_) (a' := ?_) #[true, true, true, true, true, true, true, false, false, true, true, true, false, true, true, true, false, false, false, false, false] rfl rfl (take_ofW HT_.out HW_.out (by kernel_rfl)) (fun _ _ _ h => h) (Or.inl ⟨by rfl, ?_⟩) hHeld ?_ ?_
    rotate_left
    · intro w' s0
      have s1 := (s0.cell (World.block_lt_of_cell? w _ hy00.out)).trans hy00.out
      go_simp
      with_reducible rfl
    rotate_left
    · simp only [Act.put, List.setIfInBounds_toArray, List.set_cons_zero, List.set_cons_succ, i64_w, i32_w]
      rfl
    refine take_ (i := 7) (N := some 31) (v := ?_) (a' := ?_) #[true, true, true, true, true, true, true, true, false, true, true, true, false, true, true, true, false, false, false, false, false] rfl rfl (take_ofW HT_.out HW_.out (by kernel_rfl)) (fun _ _ _ h => h) (Or.inl ⟨by rfl, ?_⟩) hHeld ?_ ?_
    rotate_left
    · intro w' s0
      have s1 := (s0.cell (World.block_lt_of_cell? w _ hy10.out)).trans hy10.out
      go_simp
      with_reducible rfl
    rotate_left
    · simp only [Act.put, List.setIfInBounds_toArray, List.set_cons_zero, List.set_cons_succ, i64_w, i32_w]
      rfl
    refine pure_ (i := 8) (N := some 32) (v := ?_) (a' := ?_) #[true, true, true, true, true, true, true, true, true, true, true, true, false, true, true, true, false, false, false, false, false] rfl rfl (any_of HT_.out (by kernel_rfl)) (fun _ _ _ h => h) (Or.inl ⟨by rfl, ?_⟩) ?_ ?_
    rotate_left
    · intro w'
      go_simp
      with_reducible rfl
    rotate_left
    · simp only [Act.put, List.setIfInBounds_toArray, List.set_cons_zero, List.set_cons_succ, i64_w, i32_w]
      rfl
    refine take_ (i := 12) (N := some 36) (v := ?_) (a' := ?_) #[true, true, true, true, true, true, true, true, true, true, true, true, true, true, true, true, false, false, false, false, false] rfl rfl (take_ofW HT_.out HW_.out (by kernel_rfl)) (fun _ _ _ h => h) (Or.inl ⟨by rfl, ?_⟩) hHeld ?_ ?_
    rotate_left
    · intro w' s0
      have s1 := (s0.cell (World.block_lt_of_cell? w _ hy01.out)).trans hy01.out
      go_simp
      with_reducible rfl
    rotate_left
    · simp only [Act.put, List.setIfInBounds_toArray, List.set_cons_zero, List.set_cons_succ, i64_w, i32_w]
      rfl
    refine take_ (i := 16) (N := some 40) (v := ?_) (a' := ?_) #[true, true, true, true, true, true, true, true, true, true, true, true, true, true, true, true, true, false, false, false, false] rfl rfl (take_ofW HT_.out HW_.out (by kernel_rfl)) (fun _ _ _ h => h) (Or.inl ⟨by rfl, ?_⟩) hHeld ?_ ?_
    rotate_left
    · intro w' s0
      have s1 := (s0.cell (World.block_lt_of_cell? w _ hy11.out)).trans hy11.out
      go_simp
      with_reducible rfl
    rotate_left
    · simp only [Act.put, List.setIfInBounds_toArray, List.set_cons_zero, List.set_cons_succ, i64_w, i32_w]
      rfl
    refine pure_ (i := 17) (N := some 41) (v := ?_) (a' := ?_) #[true, true, true, true, true, true, true, true, true, true, true, true, true, true, true, true, true, true, false, false, false] rfl rfl (any_of HT_.out (by kernel_rfl)) (fun _ _ _ h => h) (Or.inl ⟨by rfl, ?_⟩) ?_ ?_
    rotate_left
    · intro w'
      go_simp
      with_reducible rfl
    rotate_left
    · simp only [Act.put, List.setIfInBounds_toArray, List.set_cons_zero, List.set_cons_succ, i64_w, i32_w]
      rfl
    refine pure_ (i := 18) (N := some 42) (v := ?_) (a' := ?_) #[true, true, true, true, true, true, true, true, true, true, true, true, true, true, true, true, true, true, true, false, false] rfl rfl (any_of HT_.out (by kernel_rfl)) (fun _ _ _ h => h) (Or.inl ⟨by rfl, ?_⟩) ?_ ?_
    rotate_left
    · intro w'
      go_simp
      with_reducible rfl
    rotate_left
    · simp only [Act.put, List.setIfInBounds_toArray, List.set_cons_zero, List.set_cons_succ, i64_w, i32_w]
      rfl
    refine one_ (i := 19) (N := some 8) #[true, true, true, true, true, true, true, true, true, true, true, true, true, true, true, true, true, true, true, true, false] rfl rfl (one_of HT_.out (by kernel_rfl)) (by decide) (fun K hK => ?_)
    refine box_step ?hg (N := 8) ?hd (cs := #[.int .i64 0, .int .i64 0]) (t := 45) ?hr ?_; (case hd => rfl); (case hg => rfl); (case hr => first | (go_simp; done) | (go_simp; rfl))
    intro gb208 hg w26 hbox hb
    have HO2 := Aside0.mk (Kd.R_below (Kd.R_elderB HO.out gb208 (Nat.le_of_eq hg.symm)) hb)
    have GE := Aside0.mk ((by rw [hg]; exact below_size hHeld) : w.heap.size ≤ gb208)
    have BK := Aside0.mk hbox
    have HB := Aside0.mk (below_step hHeld hb)
    clear HO hb hbox hg
    refine hK.out _ _ HB.out (fun hHeld => ?_)
    clear hK K
    refine norm_ (a' := ?_) ?_ ?_
    rotate_left
    · show Act.put _ (some 8) _ = _
      simp only [Act.put, List.setIfInBounds_toArray, List.set_cons_zero, List.set_cons_succ, i64_w, i32_w]
      rfl
    refine one_ (i := 20) (N := none) #[true, true, true, true, true, true, true, true, true, true, true, true, true, true, true, true, true, true, true, true, true] rfl rfl (one_of HT_.out (by kernel_rfl)) (by decide) (fun K hK => ?_)
    have hs27 : w26.cell? ⟨gb208, 0, none⟩ = some (.int .i64 0) := (blk_cell BK.out 0).trans rfl
    have hfs27 := blk_frozen BK.out 0
    have hs28 : w26.cell? ⟨gb208, 1, none⟩ = some (.int .i64 0) := (blk_cell BK.out 1).trans rfl
    have hfs28 := blk_frozen BK.out 1
    refine skip_ (w1 := ?_) (by rfl) rfl ?_ ?_
    rotate_left
    · go_simp
      rfl
    have HB2 := Aside0.mk (below_set (v := .int .i64 ji18) (j := 1) (below_set (v := .int .i64 ji17) (j := 0) HB.out GE.out) GE.out)
    refine hK.out _ _ HB2.out (fun hHeld => ?_)
    clear hK K hHeld hs27 hs28 hfs27 hfs28
    refine done_ (done_of HT_.out (by kernel_rfl)) ?_
    clear HT_ HW_
    have HO : Aside0 (Kd.R k45 45 ((w26.setCell ⟨gb208, 0, none⟩ (.int .i64 ji17)).setCell ⟨gb208, 1, none⟩ (.int .i64 ji18)) w.heap.size (fun k_ => w.heap.size ≤ k_) u7 x7) := ⟨Kd.R_mono (Kd.R_far (p := ⟨gb208, 1, none⟩) (Kd.R_far (p := ⟨gb208, 0, none⟩) (Kd.R_mono HO2.out (fun k_ hk => (⟨hk, hk.2⟩ : _ ∧ k_ ≠ gb208))) (fun _ hk => hk.2) (.int .i64 ji17)) (fun _ hk => hk.2) (.int .i64 ji18)) (fun _ hk => hk.1.1)⟩
    have hz0 : ((w26.setCell ⟨gb208, 0, none⟩ (.int .i64 ji17)).setCell ⟨gb208, 1, none⟩ (.int .i64 ji18)).heap[gb208]? = some (.cells #[.int .i64 ji17, .int .i64 ji18] 45 (0, 0)) := by refine blk_put (cs := #[.int .i64 ji17, .int .i64 0]) ?_ 1 _ rfl; refine blk_put (cs := #[.int .i64 0, .int .i64 0]) ?_ 0 _ rfl; exact BK.out
    clear HO2 BK HB GE
    generalize ((w26.setCell ⟨gb208, 0, none⟩ (.int .i64 ji17)).setCell ⟨gb208, 1, none⟩ (.int .i64 ji18)) = W at HO hz0 HB2 ⊢
    have hc0 : W.cell? ⟨gb208, 0, none⟩ = some (.int .i64 ji17) := (blk_cell hz0 0).trans rfl
    have hc1 : W.cell? ⟨gb208, 1, none⟩ = some (.int .i64 ji18) := (blk_cell hz0 1).trans rfl
    clear hz0
    have H := HH.out
    clear HH
    by_cases c19 : ji17 < ji18
    · rw [if_pos c19] at H
      have c19b : decide (ji17 < ji18) = true := decide_eq_true c19
      clear c19
      by_cases c20 : x7.length < 8796093022208
      · rw [if_pos c20, Option.bind_some] at H
        have LM := Aside0.mk c20
        clear c20
        go_wp2_with ((with_reducible refine gate_builtin (b := .append) (xs := #[.tmp 48, .tmp 50]) rfl ?_); (try (refine gate_guard (by rfl) ?_; dsimp only)); at_builtin; refine Kd.R_append k45 (w0 := w) w.heap.size rfl (.tmp 48) (.tmp 50) 26 45 (.agg #[(.int .i64 0), (.int .i64 0)]) 16 rfl Tryd.underlying26 info45 rfl (by decide) (by omega) u7 x7 (⟨ji17, ji18⟩ : S45) [.int .i64 ji17, .int .i64 ji18] (fun k_ => (w.heap.size ≤ k_)) (fun _ => False) rfl (by first | (go_simp; done) | (go_simp; rfl)) ?aP (fun _ hk => hk.elim) ?aF HO.out HB2.out (below_size HB2.out) ?aL ?_; (case aP => exact k45_mkM _ _ _ (⟨ji17, ji18⟩ : S45)); (case aF => exact (fun k_ hk => Nat.le_trans (below_size HB2.out) hk)); (case aL => have := LM.out; omega); intro v210 w30 ho hb hg hat; have n0_ := Aside0.mk ho; have n1_ := Aside0.mk hb; clear HO HB2 ho hb hg hat hc0 hc1; have HO := n0_; have HB2 := n1_; clear n0_ n1_)
        have hx00 := (HB2.out.cell (World.block_lt_of_cell? w _ hy00.out)).trans hy00.out
        have hx01 := (HB2.out.cell (World.block_lt_of_cell? w _ hy01.out)).trans hy01.out
        have hx10 := (HB2.out.cell (World.block_lt_of_cell? w _ hy10.out)).trans hy10.out
        have hx11 := (HB2.out.cell (World.block_lt_of_cell? w _ hy11.out)).trans hy11.out
        skip
        by_cases c21 : ((rd_T45 x0 0).f1) < ((rd_T45 x1 0).f1)
        · rw [if_pos c21, if_pos qa] at H
          have c21b : decide (((rd_T45 x0 0).f1) < ((rd_T45 x1 0).f1)) = true := decide_eq_true c21
          have c21e : (((rd_T45 x0 0).f1) < ((rd_T45 x1 0).f1)) = True := eq_true c21
          have c21g : (((rd_T45 x1 0).f1) ≤ ((rd_T45 x0 0).f1)) = False := by simp; omega
          have H' := Aside0.mk H
          clear H c21
          have HD := Kd.C_drop (m := (1 : Int).toNat) (c := ca) HC0.out (by have := qa; omega) HL0.out
          have hcut := cut_from (P := Tryd.prog) 26 45 .i64 Tryd.underlying26 hi0.out 2 hsz.out (some ad0) x0.length ca 1 (by omega) qa
          obtain ⟨A32, hA32⟩ : ∃ A1, A1 = (if ca = (1 : Int).toNat then (some ad0) else ((some ad0) : Option Addr).map (·.add ((1 : Int).toNat * 2))) := ⟨_, rfl⟩
          obtain ⟨c32, hc32⟩ : ∃ c1, c1 = ca - (1 : Int).toNat := ⟨_, rfl⟩
          obtain ⟨y, hy⟩ : ∃ y, y = x0.drop 1 := ⟨_, rfl⟩
          have hyl : y.length = x0.length - (1 : Int).toNat := by rw [hy, List.length_drop]; rfl
          rw [← hyl, ← hA32, ← hc32] at hcut
          replace HD := Aside0.mk (show Kd.C k45 w A32 y.length y by rw [hA32, hy]; exact HD)
          have HE := Aside0.mk (show y.length ≤ c32 by rw [hyl, hc32]; exact Nat.sub_le_sub_right HL0.out _)
          rw [← hy] at H'
          clear hA32 hc32 hyl hy
          replace qa := eq_true qa
          go_quiet (fail)
          go_wp2
          go_roundg k2
          case measure => have := HK.out; omega
          case rel => exact ⟨A32, c32, y, (some ad1), cb, x1, _, rfl, rfl, HE, HL1, HD, HC1, H', ⟨by have := HK.out; omega⟩, ⟨by (with_reducible repeat (first | apply Kd.R_alloc | apply Kd.R_drewN | apply Kd.R_drew)); exact HO.out⟩, ⟨by repeat (first | (with_reducible first | exact HB2.out | apply below_alloc | apply pw_below_drewN | apply below_drew1) | exact HB2.out)⟩⟩
        · rw [if_neg c21, if_pos qb] at H
          have c21b : decide (((rd_T45 x0 0).f1) < ((rd_T45 x1 0).f1)) = false := decide_eq_false c21
          have c21e : (((rd_T45 x0 0).f1) < ((rd_T45 x1 0).f1)) = False := eq_false c21
          have c21g : (((rd_T45 x1 0).f1) ≤ ((rd_T45 x0 0).f1)) = True := by simp; omega
          have H' := Aside0.mk H
          clear H c21
          have HD := Kd.C_drop (m := (1 : Int).toNat) (c := cb) HC1.out (by have := qb; omega) HL1.out
          have hcut := cut_from (P := Tryd.prog) 26 45 .i64 Tryd.underlying26 hi0.out 2 hsz.out (some ad1) x1.length cb 1 (by omega) qb
          obtain ⟨A32, hA32⟩ : ∃ A1, A1 = (if cb = (1 : Int).toNat then (some ad1) else ((some ad1) : Option Addr).map (·.add ((1 : Int).toNat * 2))) := ⟨_, rfl⟩
          obtain ⟨c32, hc32⟩ : ∃ c1, c1 = cb - (1 : Int).toNat := ⟨_, rfl⟩
          obtain ⟨y, hy⟩ : ∃ y, y = x1.drop 1 := ⟨_, rfl⟩
          have hyl : y.length = x1.length - (1 : Int).toNat := by rw [hy, List.length_drop]; rfl
          rw [← hyl, ← hA32, ← hc32] at hcut
          replace HD := Aside0.mk (show Kd.C k45 w A32 y.length y by rw [hA32, hy]; exact HD)
          have HE := Aside0.mk (show y.length ≤ c32 by rw [hyl, hc32]; exact Nat.sub_le_sub_right HL1.out _)
          rw [← hy] at H'
          clear hA32 hc32 hyl hy
          replace qb := eq_true qb
          go_quiet (fail)
          go_wp2
          go_roundg k2
          case measure => have := HK.out; omega
          case rel => exact ⟨(some ad0), ca, x0, A32, c32, y, _, rfl, rfl, HL0, HE, HC0, HD, H', ⟨by have := HK.out; omega⟩, ⟨by (with_reducible repeat (first | apply Kd.R_alloc | apply Kd.R_drewN | apply Kd.R_drew)); exact HO.out⟩, ⟨by repeat (first | (with_reducible first | exact HB2.out | apply below_alloc | apply pw_below_drewN | apply below_drew1) | exact HB2.out)⟩⟩
      · rw [if_neg c20] at H
        cases H
    · rw [if_neg c19] at H
      have c19b : decide (ji17 < ji18) = false := decide_eq_false c19
      clear c19
      go_wp2
      have hx00 := (HB2.out.cell (World.block_lt_of_cell? w _ hy00.out)).trans hy00.out
      have hx01 := (HB2.out.cell (World.block_lt_of_cell? w _ hy01.out)).trans hy01.out
      have hx10 := (HB2.out.cell (World.block_lt_of_cell? w _ hy10.out)).trans hy10.out
      have hx11 := (HB2.out.cell (World.block_lt_of_cell? w _ hy11.out)).trans hy11.out
      skip
      by_cases c21 : ((rd_T45 x0 0).f1) < ((rd_T45 x1 0).f1)
      · rw [if_pos c21, if_pos qa] at H
        have c21b : decide (((rd_T45 x0 0).f1) < ((rd_T45 x1 0).f1)) = true := decide_eq_true c21
        have c21e : (((rd_T45 x0 0).f1) < ((rd_T45 x1 0).f1)) = True := eq_true c21
        have c21g : (((rd_T45 x1 0).f1) ≤ ((rd_T45 x0 0).f1)) = False := by simp; omega
        have H' := Aside0.mk H
        clear H c21
        have HD := Kd.C_drop (m := (1 : Int).toNat) (c := ca) HC0.out (by have := qa; omega) HL0.out
        have hcut := cut_from (P := Tryd.prog) 26 45 .i64 Tryd.underlying26 hi0.out 2 hsz.out (some ad0) x0.length ca 1 (by omega) qa
        obtain ⟨A32, hA32⟩ : ∃ A1, A1 = (if ca = (1 : Int).toNat then (some ad0) else ((some ad0) : Option Addr).map (·.add ((1 : Int).toNat * 2))) := ⟨_, rfl⟩
        obtain ⟨c32, hc32⟩ : ∃ c1, c1 = ca - (1 : Int).toNat := ⟨_, rfl⟩
        obtain ⟨y, hy⟩ : ∃ y, y = x0.drop 1 := ⟨_, rfl⟩
        have hyl : y.length = x0.length - (1 : Int).toNat := by rw [hy, List.length_drop]; rfl
        rw [← hyl, ← hA32, ← hc32] at hcut
        replace HD := Aside0.mk (show Kd.C k45 w A32 y.length y by rw [hA32, hy]; exact HD)
        have HE := Aside0.mk (show y.length ≤ c32 by rw [hyl, hc32]; exact Nat.sub_le_sub_right HL0.out _)
        rw [← hy] at H'
        clear hA32 hc32 hyl hy
        replace qa := eq_true qa
        go_quiet (fail)
        go_wp2
        go_roundg k2
        case measure => have := HK.out; omega
        case rel => exact ⟨A32, c32, y, (some ad1), cb, x1, _, rfl, rfl, HE, HL1, HD, HC1, H', ⟨by have := HK.out; omega⟩, ⟨by (with_reducible repeat (first | apply Kd.R_alloc | apply Kd.R_drewN | apply Kd.R_drew)); exact HO.out⟩, ⟨by repeat (first | (with_reducible first | exact HB2.out | apply below_alloc | apply pw_below_drewN | apply below_drew1) | exact HB2.out)⟩⟩
      · rw [if_neg c21, if_pos qb] at H
        have c21b : decide (((rd_T45 x0 0).f1) < ((rd_T45 x1 0).f1)) = false := decide_eq_false c21
        have c21e : (((rd_T45 x0 0).f1) < ((rd_T45 x1 0).f1)) = False := eq_false c21
        have c21g : (((rd_T45 x1 0).f1) ≤ ((rd_T45 x0 0).f1)) = True := by simp; omega
        have H' := Aside0.mk H
        clear H c21
        have HD := Kd.C_drop (m := (1 : Int).toNat) (c := cb) HC1.out (by have := qb; omega) HL1.out
        have hcut := cut_from (P := Tryd.prog) 26 45 .i64 Tryd.underlying26 hi0.out 2 hsz.out (some ad1) x1.length cb 1 (by omega) qb
        obtain ⟨A32, hA32⟩ : ∃ A1, A1 = (if cb = (1 : Int).toNat then (some ad1) else ((some ad1) : Option Addr).map (·.add ((1 : Int).toNat * 2))) := ⟨_, rfl⟩
        obtain ⟨c32, hc32⟩ : ∃ c1, c1 = cb - (1 : Int).toNat := ⟨_, rfl⟩
        obtain ⟨y, hy⟩ : ∃ y, y = x1.drop 1 := ⟨_, rfl⟩
        have hyl : y.length = x1.length - (1 : Int).toNat := by rw [hy, List.length_drop]; rfl
        rw [← hyl, ← hA32, ← hc32] at hcut
        replace HD := Aside0.mk (show Kd.C k45 w A32 y.length y by rw [hA32, hy]; exact HD)
        have HE := Aside0.mk (show y.length ≤ c32 by rw [hyl, hc32]; exact Nat.sub_le_sub_right HL1.out _)
        rw [← hy] at H'
        clear hA32 hc32 hyl hy
        replace qb := eq_true qb
        go_quiet (fail)
        go_wp2
        go_roundg k2
        case measure => have := HK.out; omega
        case rel => exact ⟨(some ad0), ca, x0, A32, c32, y, _, rfl, rfl, HL0, HE, HC0, HD, H', ⟨by have := HK.out; omega⟩, ⟨by (with_reducible repeat (first | apply Kd.R_alloc | apply Kd.R_drewN | apply Kd.R_drew)); exact HO.out⟩, ⟨by repeat (first | (with_reducible first | exact HB2.out | apply below_alloc | apply pw_below_drewN | apply below_drew1) | exact HB2.out)⟩⟩
 ·rw [if_neg c4] at H
  have c4b0 : (t129 == 0) = false := beq_eq_false_iff_ne.mpr c4
  have c4b1 : (t129 != 0) = true := bne_iff_ne.mpr c4
  simp only [Option.some.injEq, Prod.mk.injEq] at H
  obtain ⟨rfl, rfl⟩ := H
  go_enter Tryd.func6, Tryd.ntmps6
  go_wp2_with (first | ((with_reducible refine gate_dst (N := 11) rfl ?_); (try (refine gate_guard (by rfl) ?_; dsimp only)); refine Kd.N_lit (Kd.slice 45 k45) _ 26 ?hg (N' := 11) ?hd (xs := ([l0, l1] : List (List (S45)))) (inner := [.slice A0 l0.length c0, .slice A1 l1.length c1]) (ok := (fun k_ => ((P0_ k_ ∨ P1_ k_) ∨ w.heap.size ≤ k_))) (okp := (fun k_ => ((P0_ k_ ∨ P1_ k_) ∨ w.heap.size ≤ k_))) ?hr ?hp (fun _ hk => hk) ((show ∀ k_, w.heap.size ≤ k_ → (fun k_ => ((P0_ k_ ∨ P1_ k_) ∨ w.heap.size ≤ k_)) k_ from fun k_ hk => (.inr (Nat.le_trans (below_size (by repeat (first | (with_reducible first | exact HB.out | apply below_alloc | apply pw_below_drewN | apply below_drew1) | exact HB.out))) hk))) _ (Nat.le_refl _)) (Below.refl _ _) (Nat.le_refl _) (by simp) ?_; (case hd => rfl); (case hg => rfl); (case hr => first | (go_simp; done) | (go_simp; rfl)); (case hp => exact (Reps.one (show Kd.FK (Kd.slice 45 k45) _ _ l0 [.slice A0 l0.length c0] from (Kd.FK_slice_mk (Kd.V_reads' (Kd.V_mono (ok' := (fun k_ => ((P0_ k_ ∨ P1_ k_) ∨ w.heap.size ≤ k_))) (HO0.out) (fun k_ hk => hk))).2.1 (Kd.V_F (Kd.V_mono (ok' := (fun k_ => ((P0_ k_ ∨ P1_ k_) ∨ w.heap.size ≤ k_))) (HO0.out) (fun k_ hk => hk))))) (Reps.one (show Kd.FK (Kd.slice 45 k45) _ _ l1 [.slice A1 l1.length c1] from (Kd.FK_slice_mk (Kd.V_reads' (Kd.V_mono (ok' := (fun k_ => ((P0_ k_ ∨ P1_ k_) ∨ w.heap.size ≤ k_))) (HO1.out) (fun k_ hk => hk))).2.1 (Kd.V_F (Kd.V_mono (ok' := (fun k_ => ((P0_ k_ ∨ P1_ k_) ∨ w.heap.size ≤ k_))) (HO1.out) (fun k_ hk => hk))))) (Reps.none _ _)))); intro v127 w70 ho71 hb hg_ hnew_; clear hg_ hnew_; (first | rw [← Ny126.out] at ho71 | (simp only [Int.reduceToNat] at ho71; rw [← Ny126.out] at ho71)); have n0_ := Aside0.mk (Kd.V_elder' (by (with_reducible repeat (first | apply Kd.V_alloc | apply Kd.V_drewN | apply Kd.V_drew)); exact HO0.out) (Kd.N_base ho71) hb); have n1_ := Aside0.mk (Kd.V_elder' (by (with_reducible repeat (first | apply Kd.V_alloc | apply Kd.V_drewN | apply Kd.V_drew)); exact HO1.out) (Kd.N_base ho71) hb); have n2_ := Aside0.mk (Kd.N_lower ho71 (below_size (by repeat (first | (with_reducible first | exact HB.out | apply below_alloc | apply pw_below_drewN | apply below_drew1) | exact HB.out)))); have n3_ := Aside0.mk (below_step (by repeat (first | (with_reducible first | exact HB.out | apply below_alloc | apply pw_below_drewN | apply below_drew1) | exact HB.out)) hb); clear HO0; clear HO1; clear HB; have HO0 := n0_; have HO1 := n1_; have HO128 := n2_; have HB := n3_; clear n0_ n1_ n2_ n3_; clear hb ho71; obtain ⟨Ao72, co72, eo72⟩ := Kd.N_slice HO128.out; subst eo72) | ((with_reducible refine gate_callee (f := 11) rfl ?_); refine goesL_ (some 12) rfl rfl Tryd.func11 (by kernel_rfl) rfl #[.slice Ao72 y126.length co72] rfl (by (try simp only [List.map_toArray, List.map_cons, List.map_nil]); first | done | rfl | (simp only [List.length_drop, List.length_take]; rfl)) ?_; (with_reducible refine (week_checked.calls k _ _ y126 t129 _ ?side1 ?side2 A3.out).mono ?_); (case side1 => repeat (first | exact (Kd.N_reads' HO128.out).2.2 | (with_reducible refine Kd.C_alloc ?_ _) | (with_reducible refine Kd.C_drewN ?_ _) | (with_reducible refine Kd.C_drew ?_))); (case side2 => exact (Kd.N_reads' HO128.out).2.1); rintro e w73 ⟨rfl, hb⟩; refine ⟨_, rfl, ?_⟩; have n0_ := Aside0.mk (Kd.V_below (by (with_reducible repeat (first | apply Kd.V_alloc | apply Kd.V_drewN | apply Kd.V_drew)); exact HO0.out) hb); have n1_ := Aside0.mk (Kd.V_below (by (with_reducible repeat (first | apply Kd.V_alloc | apply Kd.V_drewN | apply Kd.V_drew)); exact HO1.out) hb); have n2_ := Aside0.mk (Kd.N_below (by (with_reducible repeat (first | apply Kd.N_alloc | apply Kd.N_drewN | apply Kd.N_drew)); exact HO128.out) hb); have n3_ := Aside0.mk (below_step (by repeat (first | (with_reducible first | exact HB.out | apply below_alloc | apply pw_below_drewN | apply below_drew1) | exact HB.out)) hb); clear HO0; clear HO1; clear HO128; clear HB; have HO0 := n0_; have HO1 := n1_; have HO128 := n2_; have HB := n3_; clear n0_ n1_ n2_ n3_; (try clear hb); (try clear hb2); (try clear hk); (try clear hi)))
  go_ret2
  exact ⟨_, by first | rfl | (simp [errW_none, errW_some] <;> rfl) | (simp [*, errW_none, errW_some] <;> rfl), by first | exact Kd.R_nil _ _ _ _ _ | exact Kd.N_nil _ _ _ _ _ | exact Kd.V_nil _ _ _ _ _ | exact Kd.Q_nil _ _ _ _ _ | exact Kd.S_nil _ _ _ _ _, by repeat (first | (with_reducible first | exact HB.out | apply below_alloc | apply pw_below_drewN | apply below_drew1) | exact HB.out)⟩

end Go.Proofs.YtbimjpafgiogcaaDoor.XQ
