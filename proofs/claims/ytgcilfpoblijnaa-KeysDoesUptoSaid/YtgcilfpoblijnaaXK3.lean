-- by px.py, a program of this session, over the kit's printer: functions given by hand stand beside printed ones. Lean checks all of it.
import Derived.Test.YtgcilfpoblijnaaXK0
import Derived.Test.YtgcilfpoblijnaaXK2
import Derived.Lib.SliceRun
import Derived.Deep.RegionLaw
import Derived.Lib.SlicesDelete
import Derived.Shelf.RegionOpenPlain
import Derived.Test.YtgcilfpoblijnaaGLen64
namespace Go.Proofs.Ytgcilfpoblijnaa.XK
open Go.RowKit Go.Proofs.YtgcilfpoblijnaaW.PrintWords Go.Proofs.YtgcilfpoblijnaaW.PrintLast Go.Proofs.YtgcilfpoblijnaaW.PrintMore
attribute [local go_sem] max2_int min2_int max_two min_two max_three min_three max_four min_four   -- for this text's walks alone
set_option linter.unusedVariables false
set_option linter.unusedSimpArgs false

/-! ### keys_at: function 74, by hand -/
def keys_at.ix (name : ByteArray) : Nat → List S91 → Int
  | _, [] => -1
  | i, x :: l => if x.f0.toList = name.toList then (i : Int) else keys_at.ix name (i + 1) l
def keys_at.f (l0 : List S91) (a1 : ByteArray) : Option Int := some (keys_at.ix a1 0 l0)
set_option maxHeartbeats 400000 in
set_option maxRecDepth 100000 in
theorem keys_at.one (x : S91) (nm : ByteArray) (g : Nat) (W : World) (hg : g < W.heap.size) (hc : W.cell? ⟨g, 0, none⟩ = some (.string nm)) :
    Calls Try.prog 84 #[.agg #[.string x.f0, .int .i64 x.f1], .pointer (some ⟨g, 0, none⟩)] W fun e w' => e = .returned (.bool (x.f0.toList == nm.toList)) ∧ Below W.heap.size W w' := by
  have hb := (Below.refl W.heap.size W)
  have hne : g ≠ W.heap.size := by omega
  have hu := Try.underlying91
  go_enter Try.func84, Try.ntmps84
  go_wp2
  all_goals (go_ret; exact ⟨by first | rfl | simp_all, hb.alloc hb.size _⟩)
theorem keys_at.ix_at (name : ByteArray) (l : List S91) (i : Nat) (hi : i < l.length) : keys_at.ix name i (l.drop i) = if (rd_T91 l (i : Int)).f0.toList = name.toList then (i : Int) else keys_at.ix name (i + 1) (l.drop (i + 1)) := by
  have hr : rd_T91 l (i : Int) = l[i] := by
    unfold rd_T91
    rw [Int.toNat_natCast, List.getD_eq_getElem?_getD, List.getElem?_eq_getElem hi]; rfl
  rw [List.drop_eq_getElem_cons hi, keys_at.ix, hr]
set_option maxHeartbeats 400000 in
set_option maxRecDepth 100000 in
theorem keys_at.index (A : Option Addr) (c : Nat) (l : List S91) (nm : ByteArray) (g : Nat) (w : World) (hr : Kd.C k91 w A l.length l) (hc : l.length ≤ c) (hg : g < w.heap.size) (hcell : w.cell? ⟨g, 0, none⟩ = some (.string nm)) :
    Calls Try.prog 83 #[.slice A l.length c, .func (.func 84) #[] #[.pointer (some ⟨g, 0, none⟩)]] w fun e w' => e = .returned (.int .i64 (keys_at.ix nm 0 l)) ∧ Below w.heap.size w w' := by
  have hu := Try.underlying91
  have hlen := hr.2.1
  have HR := Lib.hid hr; clear hr
  go_enter Try.func83, Try.ntmps83
  go_wp2
  go_loopw [8] (fun v8 w' => ∃ i : Nat, i ≤ l.length ∧ v8 = .int .i64 (i : Int) ∧ Hid (keys_at.ix nm 0 l = keys_at.ix nm i (l.drop i)) ∧ Hid (Below w.heap.size w w')) (fun v8 _ => l.length - (intOf v8).toNat)
  case atStart => exact ⟨0, Nat.zero_le _, rfl, Lib.hid rfl, Lib.hid (Below.refl _ _)⟩
  case round =>
    obtain ⟨i, hi, rfl, HX, HB⟩ := hrel
    by_cases hil : i < l.length
    · have h1 : ((i : Int) < (l.length : Int)) := by omega
      have h0 : (0 : Int) ≤ (i : Int) := by omega
      obtain ⟨ad, e0, hx0, hx1⟩ := at_T91 HR.out (i : Int) h0 h1
      cases e0
      replace hx0 := (HB.out.cell (World.block_lt_of_cell? w _ hx0)).trans hx0
      replace hx1 := (HB.out.cell (World.block_lt_of_cell? w _ hx1)).trans hx1
      simp only [Int.toNat_natCast] at hx0 hx1
      have hix := keys_at.ix_at nm l i hil
      have HX2 := Lib.hid (HX.out.trans hix); clear HX hix
      generalize hxx : rd_T91 l (i : Int) = x at hx0 hx1 HX2
      have d1 : decide ((i : Int) < (l.length : Int)) = true := decide_eq_true h1
      have hgw : g < wr.heap.size := Nat.lt_of_lt_of_le hg HB.out.size
      have hcw : wr.cell? ⟨g, 0, none⟩ = some (.string nm) := (HB.out.cell (p := ⟨g, 0, none⟩) hg).trans hcell
      have p1 := eq_true h0
      have q1 := eq_true h1
      by_cases cq : x.f0.toList = nm.toList
      · have e1 : (x.f0.toList == nm.toList) = true := beq_iff_eq.mpr cq
        have HC := (keys_at.one x nm g wr hgw hcw)
        rw [e1] at HC
        have HX3 := HX2.out
        rw [if_pos cq] at HX3
        go_wp2_with (go_at_call 84; refine HC.mono ?_; rintro e w3 ⟨rfl, hb3⟩)
        go_ret
        rw [HX3]
        exact ⟨rfl, below_then HB.out HB.out.size hb3⟩
      · have e1 : (x.f0.toList == nm.toList) = false := beq_eq_false_iff_ne.mpr cq
        have HC := (keys_at.one x nm g wr hgw hcw)
        rw [e1] at HC
        have HX3 := HX2.out
        rw [if_neg cq] at HX3
        go_wp2_with (go_at_call 84; refine HC.mono ?_; rintro e w3 ⟨rfl, hb3⟩)
        go_roundw
        case rel => exact ⟨i + 1, by omega, by go_num, Lib.hid HX3, Lib.hid (below_then HB.out HB.out.size hb3)⟩
        case measure => simp [intOf]; omega
    · obtain rfl : i = l.length := by omega
      have HX3 := HX.out
      rw [List.drop_of_length_le (Nat.le_refl _), keys_at.ix] at HX3
      go_wp2
      go_ret
      rw [HX3]
      exact ⟨rfl, HB.out⟩
set_option maxHeartbeats 400000 in
set_option maxRecDepth 100000 in
theorem keys_at.calls (A0 : Option Addr) (c0 : Nat) (l0 : List (S91)) (a1 : ByteArray) (r : Int) (w : World) (hr0 : Kd.C k91 w A0 l0.length l0) (hc0 : l0.length ≤ c0) (h : keys_at.f l0 a1 = some r) :
    Calls Try.prog 74 #[.slice A0 l0.length c0, .string a1] w fun e w' => e = .returned (.int .i64 r) ∧ Below w.heap.size w w' := by
  obtain rfl := Option.some.inj h
  clear h
  have hmf : ∀ (fn : Fn) (first cap : Array Value) (w : World), (Instr.makeFunc fn first cap).run Try.prog w = .ok (.func fn first cap) w := fun _ _ _ _ => rfl
  have hb := below_alloc (Below.refl w.heap.size w) (.cells #[.string a1] 9)
  have HC := keys_at.index A0 c0 l0 a1 w.heap.size (w.alloc (.cells #[.string a1] 9)) (Kd.C_below hr0 (below_alloc (Below.refl _ _) _)) hc0 (by simp) (by simp)
  clear hr0
  have HB := Lib.hid hb; clear hb
  go_enter Try.func74, Try.ntmps74
  go_wp2_with (go_at_call 83; refine HC.mono ?_; rintro e w3 ⟨rfl, hb3⟩)
  go_ret
  exact ⟨rfl, below_then HB.out HB.out.size hb3⟩


/-! ### keys_Check: function 57 -/
def keys_Check.l0 : Nat → List (S91) → List (S91) → Int → Int → Option (Int)
  | 0, _, _, _, _ => none
  | k + 1, x0, x8, x9, x10 => if x10 < x9 then (if 0 ≤ x10 then (if x10 < (x8.length : Int) then ((keys_Name.f k ((rd_T91 x8 x10).f0)).bind fun t112 => (if t112 = 0 then ((keys_at.f x0 ((rd_T91 x8 x10).f0)).bind fun t113 => (if t113 = x10 then (keys_Check.l0 k x0 x8 x9 (wrap64 (x10 + 1))) else (some 2))) else (some 2))) else (none)) else (none)) else (some 0)
def keys_Check.f (k : Nat) (l0 : List (S91)) : Option (Int) := if (l0.length : Int) > 32 then (some 2) else (keys_Check.l0 k l0 l0 (l0.length : Int) 0)
theorem keys_Check.mono_l : ∀ k, (∀ y0 y1 y2 y3, LeO (keys_Check.l0 k y0 y1 y2 y3) (keys_Check.l0 (k + 1) y0 y1 y2 y3))
  | 0 => fun _ _ _ _ r h => by simp [keys_Check.l0] at h
  | k + 1 => by
    have ih0 := keys_Check.mono_l k
    · intro y0 y1 y2 y3
      unfold keys_Check.l0
      repeat' first
      | (with_reducible exact ih0 _ _ _ _)
      | (with_reducible exact keys_Name.mono _ _)
      | (with_reducible exact LeO.refl _)
      | (with_reducible exact LeO.none _)
      | (with_reducible refine LeO.ite ?_ ?_)
      | (with_reducible refine LeO.bind ?_ (fun _ => ?_))
      | exact ih0 _ _ _ _
      | exact keys_Name.mono _ _
      | exact LeO.none _
      | refine LeO.ite ?_ ?_
      | refine LeO.bind ?_ (fun _ => ?_)
theorem keys_Check.mono : ∀ a0 k, LeO (keys_Check.f k a0) (keys_Check.f (k + 1) a0) := by
  intro a0 k
  have ih0 := keys_Check.mono_l k
  unfold keys_Check.f
  repeat' first
      | (with_reducible exact ih0 _ _ _ _)
      | (with_reducible exact keys_Name.mono _ _)
      | (with_reducible exact LeO.refl _)
      | (with_reducible exact LeO.none _)
      | (with_reducible refine LeO.ite ?_ ?_)
      | (with_reducible refine LeO.bind ?_ (fun _ => ?_))
      | exact ih0 _ _ _ _
      | exact keys_Name.mono _ _
      | exact LeO.none _
      | refine LeO.ite ?_ ?_
      | refine LeO.bind ?_ (fun _ => ?_)
set_option maxHeartbeats 8000000 in
set_option maxRecDepth 100000 in
theorem keys_Check.calls (k : Nat) (A0 : Option Addr) (c0 : Nat) (l0 : List (S91)) (r : Int) (w : World) (hr0 : Kd.C k91 w A0 l0.length l0) (hc0 : l0.length ≤ c0) (h : keys_Check.f k l0 = some r) :
    Calls Try.prog 57 #[.slice A0 l0.length c0] w fun e w' => e = .returned (.int .i64 r) ∧ Below w.heap.size w w' := by
  have hu91 := Try.underlying91
  have HR0 := Aside0.mk hr0
  have HC0 := Aside0.mk hc0
  clear hr0 hc0
  have HB := Aside0.mk (Below.refl w.heap.size w)
  have H : (if (l0.length : Int) > 32 then (some 2) else (keys_Check.l0 k l0 l0 (l0.length : Int) 0)) = some r := h
  clear h
  by_cases c2 : (l0.length : Int) > 32
  · rw [if_pos c2] at H
    have c2b0 : decide (32 < (l0.length : Int)) = true := decide_eq_true c2
    have c2b1 : decide (32 < l0.length) = true := decide_eq_true (by omega)
    clear c2
    obtain rfl := Option.some.inj H
    go_enter Try.func57, Try.ntmps57
    go_wp2
    go_ret
    exact ⟨by first | rfl | (simp [errW_none, errW_some] <;> rfl) | (simp [*, errW_none, errW_some] <;> rfl), by repeat (first | (with_reducible first | exact HB.out | apply below_alloc | apply pw_below_drewN | apply below_drew1) | exact HB.out)⟩
  · rw [if_neg c2] at H
    have c2b0 : decide (32 < (l0.length : Int)) = false := decide_eq_false c2
    have c2b1 : decide (32 < l0.length) = false := decide_eq_false (by omega)
    clear c2
    have H' := Aside0.mk H
    clear H
    go_enter Try.func57, Try.ntmps57
    go_wp2
    go_loopg [10] k (fun kq v10 w' => ∃ (x10_1 : Int), v10 = .int .i64 x10_1 ∧ Aside0 (keys_Check.l0 kq l0 l0 (l0.length : Int) x10_1 = some r) ∧ Aside0 (kq ≤ k) ∧ Aside0 (Below w.heap.size w w'))
    case atStart => exact ⟨(0), (by first | rfl | (simp; done) | (simp [*]; done)), H', ⟨Nat.le_refl _⟩, ⟨by repeat (first | (with_reducible first | exact HB.out | apply below_alloc | apply pw_below_drewN | apply below_drew1) | exact HB.out)⟩⟩
    case round =>
      clear H'
      try clear c2
      try clear c2b0
      try clear c2b1
      try clear p2
      obtain ⟨x10_1, rfl, HA, HK1, HB⟩ := hrel
      cases gk with
      | zero => exact absurd HA.out (by simp [keys_Check.l0])
      | succ k1 =>
        have H := HA.out
        clear HA
        simp only [keys_Check.l0] at H
        by_cases c3 : x10_1 < (l0.length : Int)
        · rw [if_pos c3] at H
          have c3b0 : decide (x10_1 < (l0.length : Int)) = true := decide_eq_true c3
          clear c3
          by_cases c4 : 0 ≤ x10_1
          · rw [if_pos c4] at H
            have c4b0 : decide (0 ≤ x10_1) = true := decide_eq_true c4
            clear c4
            by_cases c5 : x10_1 < (l0.length : Int)
            · rw [if_pos c5] at H
              have c5b0 : decide (x10_1 < (l0.length : Int)) = true := decide_eq_true c5
              clear c5
              replace H := Option.bind_eq_some_iff.mp H
              obtain ⟨t112, A60, H⟩ := H
              replace H : (if t112 = 0 then ((keys_at.f l0 ((rd_T91 l0 x10_1).f0)).bind fun t113 => (if t113 = x10_1 then (keys_Check.l0 k1 l0 l0 (l0.length : Int) (wrap64 (x10_1 + 1))) else (some 2))) else (some 2)) = some r := H
              have A6 := Aside0.mk A60
              clear A60
              by_cases c7 : t112 = 0
              · rw [if_pos c7] at H
                have c7b0 : (t112 == 0) = true := beq_iff_eq.mpr c7
                have c7b1 : (t112 != 0) = false := bne_eq_false_iff_eq.mpr c7
                clear c7
                replace H := Option.bind_eq_some_iff.mp H
                obtain ⟨t113, A80, H⟩ := H
                replace H : (if t113 = x10_1 then (keys_Check.l0 k1 l0 l0 (l0.length : Int) (wrap64 (x10_1 + 1))) else (some 2)) = some r := H
                have A8 := Aside0.mk A80
                clear A80
                by_cases c9 : t113 = x10_1
                · rw [if_pos c9] at H
                  have c9b0 : (t113 == x10_1) = true := beq_iff_eq.mpr c9
                  have c9b1 : (t113 != x10_1) = false := bne_eq_false_iff_eq.mpr c9
                  clear c9
                  have H' := Aside0.mk H
                  clear H
                  have p110 : 0 ≤ (x10_1 : Int) := of_decide_eq_true (by first | (with_reducible assumption) | assumption)
                  have q110 : x10_1 < (l0.length : Int) := of_decide_eq_true (by first | (with_reducible assumption) | assumption)
                  obtain ⟨ad110, e110, hx110_0, hx110_1⟩ := at_T91 HR0.out x10_1 p110 q110
                  cases e110
                  replace hx110_0 := (HB.out.cell (World.block_lt_of_cell? w _ hx110_0)).trans hx110_0
                  replace hx110_1 := (HB.out.cell (World.block_lt_of_cell? w _ hx110_1)).trans hx110_1
                  replace p110 := eq_true p110
                  replace q110 := eq_true q110
                  go_wp2_with (first | ((with_reducible refine gate_dst (N := 4) rfl ?_); refine box_event ?hg (N := 4) ?hd (cs := #[.string (⟨#[]⟩ : ByteArray), .int .i64 0]) (t := 91) ?hr ?_; (case hd => rfl); (case hg => rfl); (case hr => first | (go_simp; done) | (go_simp; rfl)); intro gb111 hg w10 hbox hb; have n0_ := Aside0.mk (below_step (by repeat (first | (with_reducible first | exact HB.out | apply below_alloc | apply pw_below_drewN | apply below_drew1) | exact HB.out)) hb); have n1_ := Aside0.mk (hbox); have n2_ := Aside0.mk ((by rw [hg]; exact (below_size (by repeat (first | (with_reducible first | exact HB.out | apply below_alloc | apply pw_below_drewN | apply below_drew1) | exact HB.out))) : w.heap.size ≤ gb111)); have n3_ := Aside0.mk ((by rw [hg]; exact (below_size (by repeat (first | (with_reducible first | exact HB.out | apply below_alloc | apply pw_below_drewN | apply below_drew1) | exact HB.out))) : w.heap.size ≤ gb111)); clear HB; have HB := n0_; have BK111 := n1_; have GW111 := n2_; have GE111 := n3_; clear n0_ n1_ n2_ n3_; clear hb hbox hg; have hcz11_0 : w10.cell? ⟨gb111, 0, none⟩ = some (.string (⟨#[]⟩ : ByteArray)) := (blk_cell BK111.out 0).trans rfl; have hcz11_1 : w10.cell? ⟨gb111, 1, none⟩ = some (.int .i64 0) := (blk_cell BK111.out 1).trans rfl; have hfz11_0 := blk_frozen BK111.out 0; have hfz11_1 := blk_frozen BK111.out 1) | ((with_reducible refine gate_callee (f := 59) rfl ?_); refine goesL_ (some 17) rfl rfl Try.func59 (by kernel_rfl) rfl #[.string ((rd_T91 l0 x10_1).f0)] rfl (by (try simp only [List.map_toArray, List.map_cons, List.map_nil]); first | done | rfl | (simp only [List.length_drop, List.length_take]; rfl)) ?_; (with_reducible refine (keys_Name.calls k1 ((rd_T91 l0 x10_1).f0) t112 _ A6.out).mono ?_); rintro e w' ⟨rfl, ⟨nd, rfl⟩⟩; refine ⟨_, rfl, ?_⟩) | (go_at_call 74; (with_reducible refine (keys_at.calls _ _ l0 ((rd_T91 l0 x10_1).f0) t113 _ ?side1 ?side2 A8.out).mono ?_); (case side1 => exact Kd.C_below HR0.out (by repeat (first | (with_reducible first | exact HB.out | apply below_alloc | apply pw_below_drewN | apply below_drew1 | refine below_set ?_ GE111.out) | exact HB.out))); (case side2 => exact HC0.out); rintro e w12 ⟨rfl, hb⟩; have n0_ := Aside0.mk (blk_below (g := gb111) (o := .cells #[.string ((rd_T91 l0 x10_1).f0), .int .i64 ((rd_T91 l0 x10_1).f1)] 91 (0, 0)) (by (with_reducible repeat (first | refine blk_drewN ?_ _ | refine blk_drew ?_ | refine blk_alloc ?_ _)); refine blk_put (cs := #[.string ((rd_T91 l0 x10_1).f0), .int .i64 0]) ?_ 1 _ rfl; (with_reducible repeat (first | refine blk_drewN ?_ _ | refine blk_drew ?_ | refine blk_alloc ?_ _)); refine blk_put (cs := #[.string (⟨#[]⟩ : ByteArray), .int .i64 0]) ?_ 0 _ rfl; (with_reducible repeat (first | refine blk_drewN ?_ _ | refine blk_drew ?_ | refine blk_alloc ?_ _)); exact BK111.out) hb); have n1_ := Aside0.mk (below_step (by repeat (first | (with_reducible first | exact HB.out | apply below_alloc | apply pw_below_drewN | apply below_drew1 | refine below_set ?_ GE111.out) | exact HB.out)) hb); clear BK111; clear HB; have BK111 := n0_; have HB := n1_; clear n0_ n1_; (try clear hb); (try clear hb2); (try clear hk); (try clear hi)))
                  go_roundg k1
                  case measure => have := HK1.out; omega
                  case rel => exact ⟨(wrap64 (x10_1 + 1)), (by first | rfl | (simp; done) | (simp [*]; done)), H', ⟨by have := HK1.out; omega⟩, ⟨by repeat (first | (with_reducible first | exact HB.out | apply below_alloc | apply pw_below_drewN | apply below_drew1 | refine below_set ?_ GE111.out) | exact HB.out)⟩⟩
                · rw [if_neg c9] at H
                  have c9b0 : (t113 == x10_1) = false := beq_eq_false_iff_ne.mpr c9
                  have c9b1 : (t113 != x10_1) = true := bne_iff_ne.mpr c9
                  obtain rfl := Option.some.inj H
                  have p110 : 0 ≤ (x10_1 : Int) := of_decide_eq_true (by first | (with_reducible assumption) | assumption)
                  have q110 : x10_1 < (l0.length : Int) := of_decide_eq_true (by first | (with_reducible assumption) | assumption)
                  obtain ⟨ad110, e110, hx110_0, hx110_1⟩ := at_T91 HR0.out x10_1 p110 q110
                  cases e110
                  replace hx110_0 := (HB.out.cell (World.block_lt_of_cell? w _ hx110_0)).trans hx110_0
                  replace hx110_1 := (HB.out.cell (World.block_lt_of_cell? w _ hx110_1)).trans hx110_1
                  replace p110 := eq_true p110
                  replace q110 := eq_true q110
                  go_wp2_with (first | ((with_reducible refine gate_dst (N := 4) rfl ?_); refine box_event ?hg (N := 4) ?hd (cs := #[.string (⟨#[]⟩ : ByteArray), .int .i64 0]) (t := 91) ?hr ?_; (case hd => rfl); (case hg => rfl); (case hr => first | (go_simp; done) | (go_simp; rfl)); intro gb111 hg w13 hbox hb; have n0_ := Aside0.mk (below_step (by repeat (first | (with_reducible first | exact HB.out | apply below_alloc | apply pw_below_drewN | apply below_drew1) | exact HB.out)) hb); have n1_ := Aside0.mk (hbox); have n2_ := Aside0.mk ((by rw [hg]; exact (below_size (by repeat (first | (with_reducible first | exact HB.out | apply below_alloc | apply pw_below_drewN | apply below_drew1) | exact HB.out))) : w.heap.size ≤ gb111)); have n3_ := Aside0.mk ((by rw [hg]; exact (below_size (by repeat (first | (with_reducible first | exact HB.out | apply below_alloc | apply pw_below_drewN | apply below_drew1) | exact HB.out))) : w.heap.size ≤ gb111)); clear HB; have HB := n0_; have BK111 := n1_; have GW111 := n2_; have GE111 := n3_; clear n0_ n1_ n2_ n3_; clear hb hbox hg; have hcz14_0 : w13.cell? ⟨gb111, 0, none⟩ = some (.string (⟨#[]⟩ : ByteArray)) := (blk_cell BK111.out 0).trans rfl; have hcz14_1 : w13.cell? ⟨gb111, 1, none⟩ = some (.int .i64 0) := (blk_cell BK111.out 1).trans rfl; have hfz14_0 := blk_frozen BK111.out 0; have hfz14_1 := blk_frozen BK111.out 1) | ((with_reducible refine gate_callee (f := 59) rfl ?_); refine goesL_ (some 17) rfl rfl Try.func59 (by kernel_rfl) rfl #[.string ((rd_T91 l0 x10_1).f0)] rfl (by (try simp only [List.map_toArray, List.map_cons, List.map_nil]); first | done | rfl | (simp only [List.length_drop, List.length_take]; rfl)) ?_; (with_reducible refine (keys_Name.calls k1 ((rd_T91 l0 x10_1).f0) t112 _ A6.out).mono ?_); rintro e w' ⟨rfl, ⟨nd, rfl⟩⟩; refine ⟨_, rfl, ?_⟩) | (go_at_call 74; (with_reducible refine (keys_at.calls _ _ l0 ((rd_T91 l0 x10_1).f0) t113 _ ?side1 ?side2 A8.out).mono ?_); (case side1 => exact Kd.C_below HR0.out (by repeat (first | (with_reducible first | exact HB.out | apply below_alloc | apply pw_below_drewN | apply below_drew1 | refine below_set ?_ GE111.out) | exact HB.out))); (case side2 => exact HC0.out); rintro e w15 ⟨rfl, hb⟩; have n0_ := Aside0.mk (blk_below (g := gb111) (o := .cells #[.string ((rd_T91 l0 x10_1).f0), .int .i64 ((rd_T91 l0 x10_1).f1)] 91 (0, 0)) (by (with_reducible repeat (first | refine blk_drewN ?_ _ | refine blk_drew ?_ | refine blk_alloc ?_ _)); refine blk_put (cs := #[.string ((rd_T91 l0 x10_1).f0), .int .i64 0]) ?_ 1 _ rfl; (with_reducible repeat (first | refine blk_drewN ?_ _ | refine blk_drew ?_ | refine blk_alloc ?_ _)); refine blk_put (cs := #[.string (⟨#[]⟩ : ByteArray), .int .i64 0]) ?_ 0 _ rfl; (with_reducible repeat (first | refine blk_drewN ?_ _ | refine blk_drew ?_ | refine blk_alloc ?_ _)); exact BK111.out) hb); have n1_ := Aside0.mk (below_step (by repeat (first | (with_reducible first | exact HB.out | apply below_alloc | apply pw_below_drewN | apply below_drew1 | refine below_set ?_ GE111.out) | exact HB.out)) hb); clear BK111; clear HB; have BK111 := n0_; have HB := n1_; clear n0_ n1_; (try clear hb); (try clear hb2); (try clear hk); (try clear hi)))
                  go_ret
                  exact ⟨by first | rfl | (simp [errW_none, errW_some] <;> rfl) | (simp [*, errW_none, errW_some] <;> rfl), by repeat (first | (with_reducible first | exact HB.out | apply below_alloc | apply pw_below_drewN | apply below_drew1 | refine below_set ?_ GE111.out) | exact HB.out)⟩
              · rw [if_neg c7] at H
                have c7b0 : (t112 == 0) = false := beq_eq_false_iff_ne.mpr c7
                have c7b1 : (t112 != 0) = true := bne_iff_ne.mpr c7
                obtain rfl := Option.some.inj H
                have p110 : 0 ≤ (x10_1 : Int) := of_decide_eq_true (by first | (with_reducible assumption) | assumption)
                have q110 : x10_1 < (l0.length : Int) := of_decide_eq_true (by first | (with_reducible assumption) | assumption)
                obtain ⟨ad110, e110, hx110_0, hx110_1⟩ := at_T91 HR0.out x10_1 p110 q110
                cases e110
                replace hx110_0 := (HB.out.cell (World.block_lt_of_cell? w _ hx110_0)).trans hx110_0
                replace hx110_1 := (HB.out.cell (World.block_lt_of_cell? w _ hx110_1)).trans hx110_1
                replace p110 := eq_true p110
                replace q110 := eq_true q110
                go_wp2_with (first | ((with_reducible refine gate_dst (N := 4) rfl ?_); refine box_event ?hg (N := 4) ?hd (cs := #[.string (⟨#[]⟩ : ByteArray), .int .i64 0]) (t := 91) ?hr ?_; (case hd => rfl); (case hg => rfl); (case hr => first | (go_simp; done) | (go_simp; rfl)); intro gb111 hg w16 hbox hb; have n0_ := Aside0.mk (below_step (by repeat (first | (with_reducible first | exact HB.out | apply below_alloc | apply pw_below_drewN | apply below_drew1) | exact HB.out)) hb); have n1_ := Aside0.mk (hbox); have n2_ := Aside0.mk ((by rw [hg]; exact (below_size (by repeat (first | (with_reducible first | exact HB.out | apply below_alloc | apply pw_below_drewN | apply below_drew1) | exact HB.out))) : w.heap.size ≤ gb111)); have n3_ := Aside0.mk ((by rw [hg]; exact (below_size (by repeat (first | (with_reducible first | exact HB.out | apply below_alloc | apply pw_below_drewN | apply below_drew1) | exact HB.out))) : w.heap.size ≤ gb111)); clear HB; have HB := n0_; have BK111 := n1_; have GW111 := n2_; have GE111 := n3_; clear n0_ n1_ n2_ n3_; clear hb hbox hg; have hcz17_0 : w16.cell? ⟨gb111, 0, none⟩ = some (.string (⟨#[]⟩ : ByteArray)) := (blk_cell BK111.out 0).trans rfl; have hcz17_1 : w16.cell? ⟨gb111, 1, none⟩ = some (.int .i64 0) := (blk_cell BK111.out 1).trans rfl; have hfz17_0 := blk_frozen BK111.out 0; have hfz17_1 := blk_frozen BK111.out 1) | ((with_reducible refine gate_callee (f := 59) rfl ?_); refine goesL_ (some 17) rfl rfl Try.func59 (by kernel_rfl) rfl #[.string ((rd_T91 l0 x10_1).f0)] rfl (by (try simp only [List.map_toArray, List.map_cons, List.map_nil]); first | done | rfl | (simp only [List.length_drop, List.length_take]; rfl)) ?_; (with_reducible refine (keys_Name.calls k1 ((rd_T91 l0 x10_1).f0) t112 _ A6.out).mono ?_); rintro e w' ⟨rfl, ⟨nd, rfl⟩⟩; refine ⟨_, rfl, ?_⟩))
                go_ret
                exact ⟨by first | rfl | (simp [errW_none, errW_some] <;> rfl) | (simp [*, errW_none, errW_some] <;> rfl), by repeat (first | (with_reducible first | exact HB.out | apply below_alloc | apply pw_below_drewN | apply below_drew1 | refine below_set ?_ GE111.out) | exact HB.out)⟩
            · rw [if_neg c5] at H
              exact absurd H (by simp)
          · rw [if_neg c4] at H
            exact absurd H (by simp)
        · rw [if_neg c3] at H
          have c3b0 : decide (x10_1 < (l0.length : Int)) = false := decide_eq_false c3
          clear c3
          obtain rfl := Option.some.inj H
          go_wp2
          go_ret
          exact ⟨by first | rfl | (simp [errW_none, errW_some] <;> rfl) | (simp [*, errW_none, errW_some] <;> rfl), by repeat (first | (with_reducible first | exact HB.out | apply below_alloc | apply pw_below_drewN | apply below_drew1) | exact HB.out)⟩

/-! ### keys_Find: function 48 -/
def keys_Find.f (k : Nat) (l0 : List (S91)) (a1 : ByteArray) : Option (Int × Int) := (keys_Check.f k l0).bind fun t114 => (if t114 = 0 then ((keys_at.f l0 a1).bind fun t115 => (if t115 < 0 then (some (0, 3)) else (if 0 ≤ t115 then (if t115 < (l0.length : Int) then (some ((rd_T91 l0 t115).f1, 0)) else (none)) else (none)))) else (some (0, t114)))
theorem keys_Find.mono : ∀ a0 a1 k, LeO (keys_Find.f k a0 a1) (keys_Find.f (k + 1) a0 a1) := by
  intro a0 a1 k
  unfold keys_Find.f
  repeat' first
      | (with_reducible exact keys_Check.mono _ _)
      | (with_reducible exact LeO.refl _)
      | (with_reducible exact LeO.none _)
      | (with_reducible refine LeO.ite ?_ ?_)
      | (with_reducible refine LeO.bind ?_ (fun _ => ?_))
      | exact keys_Check.mono _ _
      | exact LeO.none _
      | refine LeO.ite ?_ ?_
      | refine LeO.bind ?_ (fun _ => ?_)
set_option maxHeartbeats 8000000 in
set_option maxRecDepth 100000 in
theorem keys_Find.calls (k : Nat) (A0 : Option Addr) (c0 : Nat) (l0 : List (S91)) (a1 : ByteArray) (r1 : Int) (r2 : Int) (w : World) (hr0 : Kd.C k91 w A0 l0.length l0) (hc0 : l0.length ≤ c0) (h : keys_Find.f k l0 a1 = some (r1, r2)) :
    Calls Try.prog 48 #[.slice A0 l0.length c0, .string a1] w fun e w' => e = .returned (.tuple #[.int .i64 r1, .int .i64 r2]) ∧ Below w.heap.size w w' := by
  have HR0 := Aside0.mk hr0
  have HC0 := Aside0.mk hc0
  clear hr0 hc0
  have HB := Aside0.mk (Below.refl w.heap.size w)
  have H : ((keys_Check.f k l0).bind fun t114 => (if t114 = 0 then ((keys_at.f l0 a1).bind fun t115 => (if t115 < 0 then (some (0, 3)) else (if 0 ≤ t115 then (if t115 < (l0.length : Int) then (some ((rd_T91 l0 t115).f1, 0)) else (none)) else (none)))) else (some (0, t114)))) = some (r1, r2) := h
  clear h
  replace H := Option.bind_eq_some_iff.mp H
  obtain ⟨t114, A30, H⟩ := H
  replace H : (if t114 = 0 then ((keys_at.f l0 a1).bind fun t115 => (if t115 < 0 then (some (0, 3)) else (if 0 ≤ t115 then (if t115 < (l0.length : Int) then (some ((rd_T91 l0 t115).f1, 0)) else (none)) else (none)))) else (some (0, t114))) = some (r1, r2) := H
  have A3 := Aside0.mk A30
  clear A30
  by_cases c4 : t114 = 0
  · rw [if_pos c4] at H
    have c4b0 : (t114 == 0) = true := beq_iff_eq.mpr c4
    have c4b1 : (t114 != 0) = false := bne_eq_false_iff_eq.mpr c4
    clear c4
    replace H := Option.bind_eq_some_iff.mp H
    obtain ⟨t115, A50, H⟩ := H
    replace H : (if t115 < 0 then (some (0, 3)) else (if 0 ≤ t115 then (if t115 < (l0.length : Int) then (some ((rd_T91 l0 t115).f1, 0)) else (none)) else (none))) = some (r1, r2) := H
    have A5 := Aside0.mk A50
    clear A50
    by_cases c6 : t115 < 0
    · rw [if_pos c6] at H
      have c6b0 : decide (t115 < 0) = true := decide_eq_true c6
      clear c6
      simp only [Option.some.injEq, Prod.mk.injEq] at H
      obtain ⟨rfl, rfl⟩ := H
      go_enter Try.func48, Try.ntmps48
      go_wp2_with (first | ((with_reducible refine gate_callee (f := 57) rfl ?_); refine goesL_ (some 9) rfl rfl Try.func57 (by kernel_rfl) rfl #[.slice A0 l0.length c0] rfl (by (try simp only [List.map_toArray, List.map_cons, List.map_nil]); first | done | rfl | (simp only [List.length_drop, List.length_take]; rfl)) ?_; (with_reducible refine (keys_Check.calls k _ _ l0 t114 _ ?side1 ?side2 A3.out).mono ?_); (case side1 => repeat (first | exact HR0.out | (with_reducible refine Kd.C_alloc ?_ _) | (with_reducible refine Kd.C_drewN ?_ _) | (with_reducible refine Kd.C_drew ?_))); (case side2 => exact HC0.out); rintro e w7 ⟨rfl, hb⟩; refine ⟨_, rfl, ?_⟩; have n0_ := Aside0.mk (below_step (by repeat (first | (with_reducible first | exact HB.out | apply below_alloc | apply pw_below_drewN | apply below_drew1) | exact HB.out)) hb); clear HB; have HB := n0_; clear n0_; (try clear hb); (try clear hb2); (try clear hk); (try clear hi)) | ((with_reducible refine gate_callee (f := 74) rfl ?_); refine goesL_ (some 15) rfl rfl Try.func74 (by kernel_rfl) rfl #[.slice A0 l0.length c0, .string a1] rfl (by (try simp only [List.map_toArray, List.map_cons, List.map_nil]); first | done | rfl | (simp only [List.length_drop, List.length_take]; rfl)) ?_; (with_reducible refine (keys_at.calls _ _ l0 a1 t115 _ ?side1 ?side2 A5.out).mono ?_); (case side1 => repeat (first | exact (Kd.C_below HR0.out HB.out) | (with_reducible refine Kd.C_alloc ?_ _) | (with_reducible refine Kd.C_drewN ?_ _) | (with_reducible refine Kd.C_drew ?_))); (case side2 => exact HC0.out); rintro e w8 ⟨rfl, hb⟩; refine ⟨_, rfl, ?_⟩; have n0_ := Aside0.mk (below_step (by repeat (first | (with_reducible first | exact HB.out | apply below_alloc | apply pw_below_drewN | apply below_drew1) | exact HB.out)) hb); clear HB; have HB := n0_; clear n0_; (try clear hb); (try clear hb2); (try clear hk); (try clear hi)))
      go_ret2
      exact ⟨by first | rfl | (simp [errW_none, errW_some] <;> rfl) | (simp [*, errW_none, errW_some] <;> rfl), by repeat (first | (with_reducible first | exact HB.out | apply below_alloc | apply pw_below_drewN | apply below_drew1) | exact HB.out)⟩
    · rw [if_neg c6] at H
      have c6b0 : decide (t115 < 0) = false := decide_eq_false c6
      clear c6
      by_cases c9 : 0 ≤ t115
      · rw [if_pos c9] at H
        have c9b0 : decide (0 ≤ t115) = true := decide_eq_true c9
        clear c9
        by_cases c10 : t115 < (l0.length : Int)
        · rw [if_pos c10] at H
          have c10b0 : decide (t115 < (l0.length : Int)) = true := decide_eq_true c10
          clear c10
          simp only [Option.some.injEq, Prod.mk.injEq] at H
          obtain ⟨rfl, rfl⟩ := H
          go_enter Try.func48, Try.ntmps48
          go_wp2_with (first | ((with_reducible refine gate_callee (f := 57) rfl ?_); refine goesL_ (some 9) rfl rfl Try.func57 (by kernel_rfl) rfl #[.slice A0 l0.length c0] rfl (by (try simp only [List.map_toArray, List.map_cons, List.map_nil]); first | done | rfl | (simp only [List.length_drop, List.length_take]; rfl)) ?_; (with_reducible refine (keys_Check.calls k _ _ l0 t114 _ ?side1 ?side2 A3.out).mono ?_); (case side1 => repeat (first | exact HR0.out | (with_reducible refine Kd.C_alloc ?_ _) | (with_reducible refine Kd.C_drewN ?_ _) | (with_reducible refine Kd.C_drew ?_))); (case side2 => exact HC0.out); rintro e w11 ⟨rfl, hb⟩; refine ⟨_, rfl, ?_⟩; have n0_ := Aside0.mk (below_step (by repeat (first | (with_reducible first | exact HB.out | apply below_alloc | apply pw_below_drewN | apply below_drew1) | exact HB.out)) hb); clear HB; have HB := n0_; clear n0_; (try clear hb); (try clear hb2); (try clear hk); (try clear hi)) | ((with_reducible refine gate_callee (f := 74) rfl ?_); refine goesL_ (some 15) rfl rfl Try.func74 (by kernel_rfl) rfl #[.slice A0 l0.length c0, .string a1] rfl (by (try simp only [List.map_toArray, List.map_cons, List.map_nil]); first | done | rfl | (simp only [List.length_drop, List.length_take]; rfl)) ?_; (with_reducible refine (keys_at.calls _ _ l0 a1 t115 _ ?side1 ?side2 A5.out).mono ?_); (case side1 => repeat (first | exact (Kd.C_below HR0.out HB.out) | (with_reducible refine Kd.C_alloc ?_ _) | (with_reducible refine Kd.C_drewN ?_ _) | (with_reducible refine Kd.C_drew ?_))); (case side2 => exact HC0.out); rintro e w12 ⟨rfl, hb⟩; refine ⟨_, rfl, ?_⟩; have n0_ := Aside0.mk (below_step (by repeat (first | (with_reducible first | exact HB.out | apply below_alloc | apply pw_below_drewN | apply below_drew1) | exact HB.out)) hb); clear HB; have HB := n0_; clear n0_; (try clear hb); (try clear hb2); (try clear hk); (try clear hi); have p116 : 0 ≤ (t115 : Int) := of_decide_eq_true (by first | (with_reducible assumption) | assumption); have q116 : t115 < (l0.length : Int) := of_decide_eq_true (by first | (with_reducible assumption) | assumption); obtain ⟨ad116, e116, hx116_0, hx116_1⟩ := at_T91 HR0.out t115 p116 q116; cases e116; replace hx116_0 := (HB.out.cell (World.block_lt_of_cell? w _ hx116_0)).trans hx116_0; replace hx116_1 := (HB.out.cell (World.block_lt_of_cell? w _ hx116_1)).trans hx116_1; replace p116 := eq_true p116; replace q116 := eq_true q116))
          go_ret2
          exact ⟨by first | rfl | (simp [errW_none, errW_some] <;> rfl) | (simp [*, errW_none, errW_some] <;> rfl), by repeat (first | (with_reducible first | exact HB.out | apply below_alloc | apply pw_below_drewN | apply below_drew1) | exact HB.out)⟩
        · rw [if_neg c10] at H
          exact absurd H (by simp)
      · rw [if_neg c9] at H
        exact absurd H (by simp)
  · rw [if_neg c4] at H
    have c4b0 : (t114 == 0) = false := beq_eq_false_iff_ne.mpr c4
    have c4b1 : (t114 != 0) = true := bne_iff_ne.mpr c4
    simp only [Option.some.injEq, Prod.mk.injEq] at H
    obtain ⟨rfl, rfl⟩ := H
    go_enter Try.func48, Try.ntmps48
    go_wp2_with (first | ((with_reducible refine gate_callee (f := 57) rfl ?_); refine goesL_ (some 9) rfl rfl Try.func57 (by kernel_rfl) rfl #[.slice A0 l0.length c0] rfl (by (try simp only [List.map_toArray, List.map_cons, List.map_nil]); first | done | rfl | (simp only [List.length_drop, List.length_take]; rfl)) ?_; (with_reducible refine (keys_Check.calls k _ _ l0 t114 _ ?side1 ?side2 A3.out).mono ?_); (case side1 => repeat (first | exact HR0.out | (with_reducible refine Kd.C_alloc ?_ _) | (with_reducible refine Kd.C_drewN ?_ _) | (with_reducible refine Kd.C_drew ?_))); (case side2 => exact HC0.out); rintro e w13 ⟨rfl, hb⟩; refine ⟨_, rfl, ?_⟩; have n0_ := Aside0.mk (below_step (by repeat (first | (with_reducible first | exact HB.out | apply below_alloc | apply pw_below_drewN | apply below_drew1) | exact HB.out)) hb); clear HB; have HB := n0_; clear n0_; (try clear hb); (try clear hb2); (try clear hk); (try clear hi)))
    go_ret2
    exact ⟨by first | rfl | (simp [errW_none, errW_some] <;> rfl) | (simp [*, errW_none, errW_some] <;> rfl), by repeat (first | (with_reducible first | exact HB.out | apply below_alloc | apply pw_below_drewN | apply below_drew1) | exact HB.out)⟩

/-! ### api_Key_75: function 75, by hand -/
def slices_CloneK.f (l0 : List (S91)) : Option (List (S91)) := if l0.length < 5864062014805 then some l0 else none
set_option maxHeartbeats 800000 in
set_option maxRecDepth 100000 in
theorem slices_CloneK.calls (A0 : Option Addr) (c0 : Nat) (l0 : List (S91)) (r : List (S91)) (w : World) (hr0 : Kd.C k91 w A0 l0.length l0) (hc0 : l0.length ≤ c0) (h : slices_CloneK.f l0 = some r) :
    Calls Try.prog 75 #[.slice A0 l0.length c0] w fun e w' => ∃ v0_ : Value, e = .returned (v0_) ∧ Kd.R k91 91 w' w.heap.size (fun _ => True) v0_ r ∧ Below w.heap.size w w' := by
  unfold slices_CloneK.f at h
  split at h
  rotate_left
  · cases h
  rename_i hlen
  obtain rfl := Option.some.inj h
  clear h
  have HR0 := Lib.hid hr0
  have HB := Lib.hid (Below.refl w.heap.size w)
  cases A0 with
  | none =>
    have hl : l0 = [] := by
      rcases Nat.eq_zero_or_pos l0.length with h0 | h0
      · exact List.eq_nil_of_length_eq_zero h0
      · obtain ⟨ad, e, _⟩ := hr0.2.2 h0
        cases e
    subst hl
    clear hr0
    have he : ∀ w : World, (binOp .eql 53 (.slice none 0 c0) (.slice none 0 0)).run Try.prog w = .ok (.bool true) w := fun _ => rfl
    go_enter Try.func75, Try.ntmps75
    go_wp2
    go_ret
    exact ⟨_, rfl, Kd.R_nil _ _ _ _ _, HB.out⟩
  | some ad =>
    clear hr0
    have he : ∀ w : World, (binOp .eql 53 (.slice (some ad) l0.length c0) (.slice none 0 0)).run Try.prog w = .ok (.bool false) w := fun _ => rfl
    go_enter Try.func75, Try.ntmps75
    go_wp2_with (first | ((with_reducible refine gate_dst (N := 5) rfl ?_); refine Kd.R_lit k91 _ 91 ?hg (N := 5) ?hd (xs := ([] : List (S91))) (inner := []) (ok := fun _ => True) (okp := fun _ => True) ?hr ?hp (fun _ hk => hk) trivial (Below.refl _ _) (Nat.le_refl _) (by simp) ?_; (case hd => rfl); (case hg => rfl); (case hr => first | (go_simp; done) | (go_simp; rfl)); (case hp => exact (Reps.none _ _)); intro v1 w3 ho4 hb hg_ hnew_; clear hg_ hnew_; have HO1 := Lib.hid (Kd.R_lower ho4 HB.out.size); have HB1 := Lib.hid (below_then HB.out HB.out.size hb); clear HB ho4 hb) | ((with_reducible refine gate_builtin (b := .append) (xs := #[.tmp 5, .tmp 6]) rfl ?_); at_builtin; refine Kd.R_append_rows k91 (w0 := w) w.heap.size rfl (.tmp 5) (.tmp 6) 53 91 (.agg #[(.string ⟨#[]⟩), (.int .i64 0)]) 24 rfl Try.underlying53 info91 rfl (by decide) (by omega) v1 [] l0 _ _ _ (fun _ => True) (fun _ => False) rfl rfl HO1.out (Kd.C_below HR0.out HB1.out) (fun _ _ h => h) (fun _ h => h.elim) (fun _ _ => trivial) HB1.out HB1.out.size (by simp; omega) ?_; intro v2 w5 ho hb hg hat))
    go_ret
    exact ⟨_, rfl, ho, hb⟩


-- PXIMPORT Derived.Lib.SliceRun
-- PXIMPORT Derived.Deep.RegionLaw
-- PXIMPORT Derived.Lib.SlicesDelete
-- PXIMPORT Derived.Shelf.RegionOpenPlain
/-! ### api_Key_76: function 76, by hand -/
theorem run_clear_key (w : World) (ty : TypeId) (b o c : Nat) (hc : ∀ j, j < 2 → (w.cell? ⟨b, o + j, none⟩).isSome = true) (hf : ∀ j, j < 2 → w.frozen? ⟨b, o + j, none⟩ = false) :
    (Builtin.clear_ #[53] ty #[.slice (some ⟨b, o, none⟩) 1 c]).run Try.prog w = .ok (.tuple #[]) (w.setCells b o [.string ⟨#[]⟩, .int .i64 0]) := by
  have hv : ∀ w, (zeroValue 91).run Try.prog w = .ok (.agg #[.string ⟨#[]⟩, .int .i64 0]) w := fun w => by
    have := info91
    obtain ⟨i0, hi, hz⟩ := info_parts info91
    simp [zeroValue, typeInfo, hi, hz.1]
  have hzc : (Builtin.zeroCells (Value.agg #[.string ⟨#[]⟩, .int .i64 0]).cells 1).toList = [.string ⟨#[]⟩, .int .i64 0] := by
    simp [Builtin.zeroCells, Value.cells]
    rfl
  have hst := run_storeCells_cells (P := Try.prog) b o [.string ⟨#[]⟩, .int .i64 0] 0 w (by simpa using hc) (by simpa using hf) (by intro v hv'; simp at hv'; rcases hv' with rfl | rfl <;> rfl)
  simp only [Nat.add_zero] at hst
  simp [Builtin.clear_, run_underlying Try.underlying53, hv, hzc, hst]
set_option maxHeartbeats 800000 in
set_option maxRecDepth 100000 in
theorem slices_DeleteK.calls (P0_ : Nat → Prop) (v : Value) (l : List S91) (w0 w : World) (hB : Below w0.heap.size w0 w) (HO : Kd.R k91 91 w w0.heap.size P0_ v l) (hl : 0 < l.length) :
    Calls Try.prog 76 #[v, .int .i64 0, .int .i64 1] w fun e w' => ∃ v0_ : Value, e = .returned v0_ ∧ Kd.R k91 91 w' w0.heap.size P0_ v0_ (l.drop 1) ∧ Below w0.heap.size w0 w' ∧ Kept w w' P0_ := by
  obtain ⟨hok, inner, ⟨hlen, hor⟩, hreps⟩ := HO
  rcases hor with ⟨_, h0⟩ | ⟨g, cap, cur, rfl, hg, hrow, hnc, hcm, hcs, htake⟩
  · omega
  have hks : k91.sz = 2 := rfl
  rw [hks] at hlen hcs htake hreps
  generalize hn : l.length = n at *
  have hcl : cur.toList.length = cap * 2 := by rw [Array.length_toList, hcs]
  have hPg : P0_ g := hok g (by simp [Value.ownBlock])
  -- the cells that are moved
  obtain ⟨news, hnews⟩ : ∃ news, news = inner.drop 2 := ⟨_, rfl⟩
  have hnl : news.length = (n - 1) * 2 := by rw [hnews, List.length_drop, hlen]; omega
  have hone : ∀ u ∈ inner, u.oneCell' = true := by
    intro u hu
    obtain ⟨i, hi, rfl⟩ := List.getElem_of_mem hu
    have hj : i / 2 < l.length := by omega
    have hp := hreps.2 (i / 2) _ (List.getElem?_eq_getElem hj)
    have hkc := k91_openM hp
    have hx : ((inner.drop (i / 2 * 2)).take 2)[i % 2]? = some inner[i] := by
      rw [List.getElem?_take, if_pos (by omega), List.getElem?_drop, show i / 2 * 2 + i % 2 = i by omega, List.getElem?_eq_getElem hi]
    rw [hkc] at hx
    have hm : inner[i] ∈ ([Value.string l[i / 2].f0, Value.int .i64 l[i / 2].f1] : List Value) := List.mem_of_getElem? hx
    simp at hm
    rcases hm with e | e <;> rw [e] <;> rfl
  have hcell : ∀ j, j < n * 2 → w.cell? ⟨g, j, none⟩ = inner[j]? := by
    intro j hj
    rw [cell_of_row w g j _ _ _ hrow, ← htake, List.getElem?_take, if_pos hj, Array.getElem?_toList]
  have hfroz : ∀ j, w.frozen? ⟨g, j, none⟩ = false := by
    intro j
    simp [World.frozen?, hrow]
  obtain ⟨m, rfl⟩ : ∃ m, n = m + 1 := ⟨n - 1, by omega⟩
  have hnl : news.length = m * 2 := by rw [hnl]; rfl
  obtain ⟨Asrc, hA, hsrc⟩ : ∃ Asrc : Addr, (if cap = 1 then some (⟨g, 0, none⟩ : Addr) else some ⟨g, 2, none⟩) = some Asrc ∧ Hid (∀ t u, news[t]? = some u → w.drew.cell? (Asrc.add t) = some u) := by
    by_cases h : cap = 1
    · refine ⟨⟨g, 0, none⟩, by simp [h], Lib.hid (fun t u hu => ?_)⟩
      have h0 : news.length = 0 := by omega
      rw [List.length_eq_zero_iff.1 h0] at hu
      simp at hu
    · refine ⟨⟨g, 2, none⟩, by simp [h], Lib.hid (fun t u hu => ?_)⟩
      have ht : t < news.length := (List.getElem?_eq_some_iff.1 hu).1
      have e : (⟨g, 2, none⟩ : Addr).add t = ⟨g, 2 + t, none⟩ := by unfold Addr.add; split <;> simp_all
      rw [e]
      show w.cell? _ = _
      rw [hcell (2 + t) (by omega), ← hu, hnews, List.getElem?_drop]
  have s2 : Hid (∀ u ∈ news, u.oneCell' = true) := Lib.hid (fun u hu => hone u (by rw [hnews] at hu; exact List.mem_of_mem_drop hu))
  have s3 : Hid (∀ t, t < news.length → (w.drew.cell? ⟨g, 0 + 0 * 2 + t, none⟩).isSome = true ∧ w.drew.frozen? ⟨g, 0 + 0 * 2 + t, none⟩ = false) := Lib.hid (fun t ht => by
    have e : 0 + 0 * 2 + t = t := by omega
    rw [e]
    refine ⟨?_, hfroz t⟩
    show (w.cell? _).isSome = true
    rw [hcell t (by omega), List.getElem?_eq_getElem (by omega)]
    rfl)
  obtain ⟨W1, hW1⟩ : ∃ W1, W1 = w.drew.setCells g (0 + 0 * 2) news := ⟨_, rfl⟩
  have hW : Hid (W1 = w.drew.setCells g (0 + 0 * 2) news) := Lib.hid hW1
  have hic : 1 ≤ cap := by omega
  have hb1 : ((1 : Int) ≤ (m : Int) + 1) = True := eq_true (by omega)
  have hb2 : ((m : Int) ≤ (m : Int) + 1) = True := eq_true (by omega)
  have hb3 : ((m : Int) + 1 ≤ (cap : Int)) = True := eq_true (by omega)
  have hb4 : (cap = m) = False := eq_false (by omega)
  have mixed : Try.prog.follows Departure.mixedOrders = true := by kernel_rfl
  have hl1 := Lib.hid hnl
  obtain ⟨i0, hi0, hz0⟩ := info_parts info91
  have HRP := Lib.hid hreps
  have HBB := Lib.hid hB
  clear hcell hfroz hreps hone htake hW1 hB
  go_enter Try.func76, Try.ntmps76
  go_wp2_with fail
  go_region_law_o (refine step_append_room rfl (.tmp 22) (.tmp 25) 53 rfl 91 i0 2 Try.underlying53 hi0 hz0.2.1 g 0 0 cap (by simp [Act.eval, Act.put]) Asrc m (cap - 1) news (by simp [Act.eval, Act.put, hA]) hl1.out hsrc.out s2.out (by omega) s3.out ?_; rw [← hW.out])
  have hrow1 := setCells_row news (0 + 0 * 2) w.drew cur hrow (by rw [hl1.out, hcs]; omega)
  obtain ⟨cur1, hr1, hcs1, hcl1⟩ := hrow1
  rw [← hW.out] at hr1
  have hcell1 : ∀ j, j < cap * 2 → (W1.cell? ⟨g, j, none⟩).isSome = true := by
    intro j hj
    rw [cell_of_row W1 g j _ _ _ hr1, Array.getElem?_eq_getElem (by omega)]
    rfl
  have hfroz1 : ∀ j, W1.frozen? ⟨g, j, none⟩ = false := by
    intro j
    simp [World.frozen?, hr1]
  have hclr : ∀ (ty : TypeId) (c : Nat), (Builtin.clear_ #[53] ty #[.slice (some ⟨g, m * 2, none⟩) 1 c]).run Try.prog W1 = .ok (.tuple #[]) (W1.setCells g (m * 2) [.string ⟨#[]⟩, .int .i64 0]) :=
    fun ty c => run_clear_key W1 ty g (m * 2) c (fun j hj => hcell1 _ (by omega)) (fun j hj => hfroz1 _)
  have hrow2 := setCells_row [.string ⟨#[]⟩, .int .i64 0] (m * 2) W1 cur1 hr1 (by simp; omega)
  obtain ⟨cur2, hr2, hcs2, hcl2⟩ := hrow2
  have hfar : ∀ k, k ≠ g → (W1.setCells g (m * 2) [.string ⟨#[]⟩, .int .i64 0]).heap[k]? = w.heap[k]? := by
    intro k hk
    rw [setCells_far _ _ k hk, hW.out, setCells_far _ _ k hk]
    rfl
  have hsame := setCells_same g [.string ⟨#[]⟩, .int .i64 0] (m * 2) W1
  have hsame1 := setCells_same g news (0 + 0 * 2) w.drew
  rw [← hW.out] at hsame1
  clear hcell1 hfroz1
  generalize hW2 : W1.setCells g (m * 2) [.string ⟨#[]⟩, .int .i64 0] = W2 at *
  clear hW2
  have HX := Lib.hid (And.intro hr2 (And.intro hcs2 (And.intro hcl2 (And.intro hcs1 (And.intro hcl1 (And.intro hfar (And.intro hsame hsame1)))))))
  clear hr2 hcs2 hcl2 hcs1 hcl1 hfar hsame hsame1 hr1
  go_wp2
  go_ret
  obtain ⟨hr2, hcs2, hcl2, hcs1, hcl1, hfar, ⟨e1, e2, e3, e4⟩, ⟨f1, f2, f3, f4⟩⟩ := HX.out
  have hreps := HRP.out
  have hnl := hl1.out
  have ht1 : cur1.toList.take (m * 2) = news := by
    rw [hcl1]
    simp only [Nat.zero_mul, Nat.add_zero, List.take_zero, List.nil_append]
    rw [← hnl, List.take_left]
  have ht2 : cur2.toList.take (m * 2) = news := by
    rw [hcl2, ht1, List.append_assoc, ← hnl, List.take_left]
  have hdl : (l.drop 1).length = m := by rw [List.length_drop]; omega
  refine ⟨_, rfl, ⟨fun k hk => ?_, news, ?_, ?_⟩, ?_, ?_⟩
  · simp [Value.ownBlock] at hk
    rw [← hk]; exact hPg
  · rw [hdl, hks]
    exact ⟨hnl, .inr ⟨g, cap, cur2, rfl, hg, hr2, by omega, hcm, by rw [hcs2, hcs1, hcs], ht2⟩⟩
  · rw [hks]
    refine ⟨by rw [hdl]; exact hnl, fun j p hj => ?_⟩
    have hp := hreps.2 (j + 1) p (by rw [List.getElem?_drop] at hj; rw [Nat.add_comm]; exact hj)
    have hk := k91_openM hp
    have e : (news.drop (j * 2)).take 2 = (inner.drop ((j + 1) * 2)).take 2 := by
      rw [hnews, List.drop_drop]
      congr 2
      omega
    rw [e, hk]
    exact k91_mkM _ _ _ _
  · refine (below_drew1 HBB.out).trans ⟨?_, ?_, ?_, ?_, fun k hk => ?_⟩
    · first | exact (e1.trans f1) | exact (e1.trans f1).symm
    · first | exact (e2.trans f2) | exact (e2.trans f2).symm
    · first | exact (e3.trans f3) | exact (e3.trans f3).symm
    · first | exact Nat.le_of_eq (e4.trans f4).symm | exact Nat.le_of_eq (e4.trans f4)
    · exact hfar k (by omega)
  · refine ⟨Nat.le_of_eq (e4.trans f4).symm, fun i hi hn => hfar i (fun e => hn (by rw [e]; exact hPg))⟩

/-! ### keys_Put: function 50, by hand -/
def keys_Put.f (k : Nat) (l0 : List (S91)) (a1 : ByteArray) (a2 : Int) : Option (List (S91) × Int) :=
  (keys_Check.f k l0).bind fun why => if why = 0 then (slices_CloneK.f l0).bind fun l => (keys_Name.f k a1).bind fun nm => if nm = 0 then (keys_at.f l0 a1).bind fun i => if 0 ≤ i then some (l0, 4) else if l0.length = 32 then some (l0.drop 1 ++ [⟨a1, a2⟩], 0) else some (l0 ++ [⟨a1, a2⟩], 0) else some (l0, 13) else some ([], why)
theorem keys_Put.mono : ∀ a0 a1 a2 k, LeO (keys_Put.f k a0 a1 a2) (keys_Put.f (k + 1) a0 a1 a2) := by
  intro a0 a1 a2 k
  unfold keys_Put.f
  exact LeO.bind (keys_Check.mono _ _) (fun _ => LeO.ite (LeO.bind (LeO.refl _) (fun _ => LeO.bind (keys_Name.mono _ _) (fun _ => LeO.refl _))) (LeO.refl _))
set_option maxHeartbeats 2000000 in
set_option maxRecDepth 100000 in
theorem keys_Put.calls (k : Nat) (A0 : Option Addr) (c0 : Nat) (l0 : List (S91)) (a1 : ByteArray) (a2 : Int) (r1 : List (S91)) (r2 : Int) (w : World) (hr0 : Kd.C k91 w A0 l0.length l0) (hc0 : l0.length ≤ c0) (h : keys_Put.f k l0 a1 a2 = some (r1, r2)) :
    Calls Try.prog 50 #[.slice A0 l0.length c0, .string a1, .int .i64 a2] w fun e w' => ∃ v0_ : Value, e = .returned (.tuple #[v0_, .int .i64 r2]) ∧ Kd.R k91 91 w' w.heap.size (fun _ => True) v0_ r1 ∧ Below w.heap.size w w' := by
  have hu := Try.underlying91
  have HR0 := Lib.hid hr0; clear hr0
  have H : ((keys_Check.f k l0).bind fun why => if why = 0 then (slices_CloneK.f l0).bind fun l => (keys_Name.f k a1).bind fun nm => if nm = 0 then (keys_at.f l0 a1).bind fun i => if 0 ≤ i then some (l0, 4) else if l0.length = 32 then some (l0.drop 1 ++ [⟨a1, a2⟩], 0) else some (l0 ++ [⟨a1, a2⟩], 0) else some (l0, 13) else some ([], why)) = some (r1, r2) := h
  clear h
  replace H := Option.bind_eq_some_iff.mp H
  obtain ⟨why, HCH, H⟩ := H
  replace HCH := Lib.hid HCH
  by_cases c1 : why = 0
  rotate_left
  · rw [if_neg c1] at H
    simp only [Option.some.injEq, Prod.mk.injEq] at H
    obtain ⟨rfl, rfl⟩ := H
    have d1 : (why != 0) = true := bne_iff_ne.mpr c1
    go_enter Try.func50, Try.ntmps50
    go_wp2_with (go_at_call 57; refine (keys_Check.calls k A0 c0 _ _ _ HR0.out hc0 HCH.out).mono ?_; rintro e w1 ⟨rfl, hb1⟩; have HB1 := Lib.hid hb1; have HR1 := Lib.hid (Kd.C_below HR0.out hb1); clear hb1)
    go_ret2
    exact ⟨_, rfl, Kd.R_nil _ _ _ _ _, HB1.out⟩
  rw [if_pos c1] at H
  subst c1
  replace H := Option.bind_eq_some_iff.mp H
  obtain ⟨l, HCL, H⟩ := H
  have hl : l = l0 := by
    unfold slices_CloneK.f at HCL
    split at HCL
    · exact (Option.some.inj HCL).symm
    · cases HCL
  subst hl
  have hlen : l.length < 5864062014805 := by
    unfold slices_CloneK.f at HCL
    split at HCL
    · assumption
    · cases HCL
  replace HCL := Lib.hid HCL
  replace H := Option.bind_eq_some_iff.mp H
  obtain ⟨nm, HNM, H⟩ := H
  replace HNM := Lib.hid HNM
  by_cases c2 : nm = 0
  rotate_left
  · rw [if_neg c2] at H
    simp only [Option.some.injEq, Prod.mk.injEq] at H
    obtain ⟨rfl, rfl⟩ := H
    have d2 : (nm != 0) = true := bne_iff_ne.mpr c2
    go_enter Try.func50, Try.ntmps50
    go_wp2_with (first | (go_at_call 57; refine (keys_Check.calls k A0 c0 _ _ _ HR0.out hc0 HCH.out).mono ?_; rintro e w1 ⟨rfl, hb1⟩; have HB1 := Lib.hid hb1; have HR1 := Lib.hid (Kd.C_below HR0.out hb1); clear hb1) | (go_at_call 75; refine (slices_CloneK.calls A0 c0 l l _ HR1.out hc0 HCL.out).mono ?_; rintro e w2 ⟨v2, rfl, ho2, hb2⟩; obtain ⟨A2, c2, rfl, hl2, hC2⟩ := Kd.R_reads ho2; have HO2 := Lib.hid (Kd.R_lower ho2 HB1.out.size); have HC2 := Lib.hid hC2; have HB2 := Lib.hid (below_then HB1.out HB1.out.size hb2); clear ho2 hC2 hb2) | (go_at_call 59; refine (keys_Name.calls k a1 _ _ HNM.out).mono ?_; rintro e w3 ⟨rfl, hd3⟩; have HO3 := Lib.hid (Kd.R_below HO2.out hd3.below); have HC3 := Lib.hid (Kd.C_below HC2.out hd3.below); have HB3 := Lib.hid (below_then HB2.out HB2.out.size hd3.below); clear hd3))
    go_ret2
    exact ⟨_, rfl, HO3.out, HB3.out⟩
  rw [if_pos c2] at H
  subst c2
  replace H := Option.bind_eq_some_iff.mp H
  obtain ⟨i, HAT, H⟩ := H
  replace HAT := Lib.hid HAT
  by_cases c3 : 0 ≤ i
  · rw [if_pos c3] at H
    simp only [Option.some.injEq, Prod.mk.injEq] at H
    obtain ⟨rfl, rfl⟩ := H
    have d3 : decide (0 ≤ i) = true := decide_eq_true c3
    have d4 := eq_true c3
    go_enter Try.func50, Try.ntmps50
    go_wp2_with (first | (go_at_call 57; refine (keys_Check.calls k A0 c0 _ _ _ HR0.out hc0 HCH.out).mono ?_; rintro e w1 ⟨rfl, hb1⟩; have HB1 := Lib.hid hb1; have HR1 := Lib.hid (Kd.C_below HR0.out hb1); clear hb1) | (go_at_call 75; refine (slices_CloneK.calls A0 c0 l l _ HR1.out hc0 HCL.out).mono ?_; rintro e w2 ⟨v2, rfl, ho2, hb2⟩; obtain ⟨A2, c2, rfl, hl2, hC2⟩ := Kd.R_reads ho2; have HO2 := Lib.hid (Kd.R_lower ho2 HB1.out.size); have HC2 := Lib.hid hC2; have HB2 := Lib.hid (below_then HB1.out HB1.out.size hb2); clear ho2 hC2 hb2) | (go_at_call 59; refine (keys_Name.calls k a1 _ _ HNM.out).mono ?_; rintro e w3 ⟨rfl, hd3⟩; have HO3 := Lib.hid (Kd.R_below HO2.out hd3.below); have HC3 := Lib.hid (Kd.C_below HC2.out hd3.below); have HB3 := Lib.hid (below_then HB2.out HB2.out.size hd3.below); clear hd3) | (go_at_call 74; refine (keys_at.calls A2 c2 l a1 i _ HC3.out hl2 HAT.out).mono ?_; rintro e w4 ⟨rfl, hb4⟩; have HO4 := Lib.hid (Kd.R_below HO3.out hb4); have HB4 := Lib.hid (below_then HB3.out HB3.out.size hb4); clear hb4))
    go_ret2
    exact ⟨_, rfl, HO4.out, HB4.out⟩
  rw [if_neg c3] at H
  have d3 : decide (0 ≤ i) = false := decide_eq_false c3
  have d4 := eq_false c3
  by_cases c5 : l.length = 32
  · rw [if_pos c5] at H
    simp only [Option.some.injEq, Prod.mk.injEq] at H
    obtain ⟨rfl, rfl⟩ := H
    have d5 : ((l.length : Int) = 32) = True := eq_true (by omega)
    have d6 : ((l.length : Int) == 32) = true := beq_iff_eq.mpr (by omega)
    have HC5 := Lib.hid c5; clear c5
    have hd1 : (l.drop 1).length < 5864062014805 := by rw [List.length_drop]; omega
    have hl0 : 0 < l.length := by have := HC5.out; omega
    go_enter Try.func50, Try.ntmps50
    go_wp2_with (first | (go_at_call 57; refine (keys_Check.calls k A0 c0 _ _ _ HR0.out hc0 HCH.out).mono ?_; rintro e w1 ⟨rfl, hb1⟩; have HB1 := Lib.hid hb1; have HR1 := Lib.hid (Kd.C_below HR0.out hb1); clear hb1) | (go_at_call 75; refine (slices_CloneK.calls A0 c0 l l _ HR1.out hc0 HCL.out).mono ?_; rintro e w2 ⟨v2, rfl, ho2, hb2⟩; obtain ⟨A2, c2, rfl, hl2, hC2⟩ := Kd.R_reads ho2; have HO2 := Lib.hid (Kd.R_lower ho2 HB1.out.size); have HC2 := Lib.hid hC2; have HB2 := Lib.hid (below_then HB1.out HB1.out.size hb2); clear ho2 hC2 hb2) | (go_at_call 59; refine (keys_Name.calls k a1 _ _ HNM.out).mono ?_; rintro e w3 ⟨rfl, hd3⟩; have HO3 := Lib.hid (Kd.R_below HO2.out hd3.below); have HC3 := Lib.hid (Kd.C_below HC2.out hd3.below); have HB3 := Lib.hid (below_then HB2.out HB2.out.size hd3.below); clear hd3) | (go_at_call 74; refine (keys_at.calls A2 c2 l a1 i _ HC3.out hl2 HAT.out).mono ?_; rintro e w4 ⟨rfl, hb4⟩; have HO4 := Lib.hid (Kd.R_below HO3.out hb4); have HB4 := Lib.hid (below_then HB3.out HB3.out.size hb4); clear hb4) | (go_at_call 76; refine (slices_DeleteK.calls (fun _ => True) _ l w _ HB4.out HO4.out hl0).mono ?_; rintro e w5 ⟨v5, rfl, ho5, hb5, hk5⟩; have HO5 := Lib.hid ho5; have HB5 := Lib.hid hb5; clear ho5 hb5 hk5) | ((with_reducible refine gate_builtin (b := .append) (xs := #[.tmp 33, .tmp 37]) rfl ?_); at_builtin; refine Kd.R_append k91 (w0 := w) w.heap.size rfl (.tmp 33) (.tmp 37) 53 91 (.agg #[(.string ⟨#[]⟩), (.int .i64 0)]) 24 rfl Try.underlying53 info91 rfl (by decide) (by omega) v5 (l.drop 1) (⟨a1, a2⟩ : S91) [.string a1, .int .i64 a2] (fun _ => True) (fun _ => False) rfl rfl (k91_mkM _ _ _ (⟨a1, a2⟩ : S91)) (fun _ hk => hk.elim) (fun _ _ => trivial) HO5.out HB5.out HB5.out.size (by omega) ?_; intro v9 w9 ho hb hg hat))
    go_ret2
    exact ⟨_, rfl, ho, hb⟩
  · rw [if_neg c5] at H
    simp only [Option.some.injEq, Prod.mk.injEq] at H
    obtain ⟨rfl, rfl⟩ := H
    have d5 : ((l.length : Int) = 32) = False := eq_false (by omega)
    have d6 : ((l.length : Int) == 32) = false := beq_eq_false_iff_ne.mpr (by omega)
    clear c5
    go_enter Try.func50, Try.ntmps50
    go_wp2_with (first | (go_at_call 57; refine (keys_Check.calls k A0 c0 _ _ _ HR0.out hc0 HCH.out).mono ?_; rintro e w1 ⟨rfl, hb1⟩; have HB1 := Lib.hid hb1; have HR1 := Lib.hid (Kd.C_below HR0.out hb1); clear hb1) | (go_at_call 75; refine (slices_CloneK.calls A0 c0 l l _ HR1.out hc0 HCL.out).mono ?_; rintro e w2 ⟨v2, rfl, ho2, hb2⟩; obtain ⟨A2, c2, rfl, hl2, hC2⟩ := Kd.R_reads ho2; have HO2 := Lib.hid (Kd.R_lower ho2 HB1.out.size); have HC2 := Lib.hid hC2; have HB2 := Lib.hid (below_then HB1.out HB1.out.size hb2); clear ho2 hC2 hb2) | (go_at_call 59; refine (keys_Name.calls k a1 _ _ HNM.out).mono ?_; rintro e w3 ⟨rfl, hd3⟩; have HO3 := Lib.hid (Kd.R_below HO2.out hd3.below); have HC3 := Lib.hid (Kd.C_below HC2.out hd3.below); have HB3 := Lib.hid (below_then HB2.out HB2.out.size hd3.below); clear hd3) | (go_at_call 74; refine (keys_at.calls A2 c2 l a1 i _ HC3.out hl2 HAT.out).mono ?_; rintro e w4 ⟨rfl, hb4⟩; have HO4 := Lib.hid (Kd.R_below HO3.out hb4); have HB4 := Lib.hid (below_then HB3.out HB3.out.size hb4); clear hb4) | ((with_reducible refine gate_builtin (b := .append) (xs := #[.tmp 33, .tmp 37]) rfl ?_); at_builtin; refine Kd.R_append k91 (w0 := w) w.heap.size rfl (.tmp 33) (.tmp 37) 53 91 (.agg #[(.string ⟨#[]⟩), (.int .i64 0)]) 24 rfl Try.underlying53 info91 rfl (by decide) (by omega) _ l (⟨a1, a2⟩ : S91) [.string a1, .int .i64 a2] (fun _ => True) (fun _ => False) rfl rfl (k91_mkM _ _ _ (⟨a1, a2⟩ : S91)) (fun _ hk => hk.elim) (fun _ _ => trivial) HO4.out HB4.out HB4.out.size (by omega) ?_; intro v9 w9 ho hb hg hat))
    go_ret2
    exact ⟨_, rfl, ho, hb⟩


-- PXIMPORT YtgcilfpoblijnaaGLen64
/-! ### bits_Len64: function 81, by hand -/
def bits_Len64.f (a0 : Int) : Option (Int) := if 0 ≤ a0 ∧ a0 ≤ 18446744073709551615 then some (Lib.bitLen a0.toNat : Nat) else none
theorem bits_Len64.calls (a0 : Int) (r : Int) (w : World) (h : bits_Len64.f a0 = some r) :
    Calls Try.prog 81 #[.int .u64 a0] w fun e w' => e = .returned (.int .i64 r) ∧ Drawn0 w w' := by
  unfold bits_Len64.f at h
  split at h
  · rename_i hc
    obtain rfl := Option.some.inj h
    refine (bits_Len64.len a0 w hc.1 hc.2).mono ?_
    rintro e w' ⟨rfl, rfl⟩
    exact ⟨rfl, Drawn0.refl _⟩
  · cases h


/-! ### wire_Put: function 65, by hand -/
/-- A whole number's magnitude. -/
def wire_Put.mag (n : Int) : Nat := n.natAbs
def wire_Put.many (n : Int) : Nat := (Lib.bitLen n.natAbs + 7) / 8
def wire_Put.byte (m i : Nat) : Int := (m : Int) / 2 ^ (8 * (7 - i)) % 256
/-- A number's bytes. -/
def wire_Put.bytes (n : Int) : List Int :=
  Go.bits .or .u8 (if n < 0 then 128 else 0) (wire_Put.many n : Int) :: ((List.range 8).map (wire_Put.byte n.natAbs)).drop (8 - wire_Put.many n)
def wire_Put.f (l0 : List Int) (a1 : Int) : Option (List Int) :=
  if -9223372036854775808 ≤ a1 ∧ a1 ≤ 9223372036854775807 ∧ l0.length + 9 ≤ 140737488355328 then some (l0 ++ wire_Put.bytes a1) else none
theorem wire_Put.bitLen_le (n : Nat) : Lib.bitLen n ≤ 64 := by
  have h : ∀ f x, Lib.bitLenAux f x ≤ f := by
    intro f
    induction f with
    | zero => intro x; exact Nat.le_refl _
    | succ f ih => intro x; unfold Lib.bitLenAux; split; · omega
                   · have := ih (x / 2); omega
  exact h 64 n
def wire_Put.arr (m k : Nat) : Array Value := ((List.range 8).map fun i => Value.int .u8 (if i < k then wire_Put.byte m i else 0)).toArray
structure wire_Put.Arr (m g k : Nat) (w W : World) : Prop where
  below : Below g w W
  size : W.heap.size = g + 1
  blk : W.heap[g]? = some (.cells (wire_Put.arr m k) 99 (0, 0))
theorem wire_Put.arr_size (m k : Nat) : (wire_Put.arr m k).size = 8 := by simp [wire_Put.arr]
theorem wire_Put.Arr.cell {m g k : Nat} {w W : World} (h : wire_Put.Arr m g k w W) (j : Nat) (hj : j < 8) : W.cell? ⟨g, j, none⟩ = some (.int .u8 (if j < k then wire_Put.byte m j else 0)) := by
  rw [cell_of_row W g j _ _ _ h.blk]
  simp [wire_Put.arr, hj]
theorem wire_Put.Arr.frozen {m g k : Nat} {w W : World} (h : wire_Put.Arr m g k w W) (j : Nat) : W.frozen? ⟨g, j, none⟩ = false := by
  have := h.blk
  simp [World.frozen?, this]
theorem wire_Put.Arr.first (m : Nat) (w : World) (cs : Array Value) (h : cs = #[.int .u8 0, .int .u8 0, .int .u8 0, .int .u8 0, .int .u8 0, .int .u8 0, .int .u8 0, .int .u8 0]) : wire_Put.Arr m w.heap.size 0 w (w.alloc (.cells cs 99)) := by
  refine ⟨(Below.refl _ _).alloc (Nat.le_refl _) _, by simp, ?_⟩
  rw [heap_alloc_new, h]
  rfl
theorem wire_Put.Arr.step {m g k : Nat} {w W : World} (h : wire_Put.Arr m g k w W) (hk : k < 8) : wire_Put.Arr m g (k + 1) w (W.setCell ⟨g, k, none⟩ (.int .u8 (wire_Put.byte m k))) := by
  refine ⟨h.below.setCell (p := ⟨g, k, none⟩) (Nat.le_refl _) _, by simp [World.setCell, h.size], ?_⟩
  rw [blk_set h.blk k _]
  congr 2
  apply Array.ext
  · simp [wire_Put.arr]
  · intro i h1 h2
    rw [Array.getElem_setIfInBounds (by simpa using h1)]
    by_cases hi : k = i
    · subst hi; simp [wire_Put.arr]
    · rw [if_neg hi]
      have h3 : (i < k + 1) ↔ (i < k) := by omega
      simp [wire_Put.arr, h3]
theorem wire_Put.cutArr (g nm : Nat) (h : nm ≤ 8) : ∃ A : Addr, (0 < nm → A = ⟨g, 8 - nm, none⟩) ∧ ∀ W : World, (Instr.sliceAt 99 (.pointer (some ⟨g, 0, none⟩)) (some (.int .i64 (8 - (nm : Int)))) none none).run Try.prog W = .ok (.slice (some A) nm nm) W := by
  refine ⟨if 8 = 8 - nm then ⟨g, 0, none⟩ else (⟨g, 0, none⟩ : Addr).add (8 - nm), fun h0 => ?_, fun W => ?_⟩
  · rw [if_neg (by omega), add_plain]
  · have ha : Try.prog.arrayLen 99 = 8 := by kernel_rfl
    have he : Try.prog.elem 99 = 5 := by kernel_rfl
    obtain ⟨i0, hi, hz⟩ := info_parts info5
    rw [run_sliceAt_array_l W 99 ⟨g, 0, none⟩ (by rw [ha, he]; exact Try.underlying99) .i64 (8 - (nm : Int)) (by omega) (by rw [ha]; omega), ha, he]
    have ht : (8 - (nm : Int)).toNat = 8 - nm := by omega
    simp [slicedAt, ht, sizeOf, typeInfo, hi, hz.2.1, Result.andThen, show 8 - (8 - nm) = nm by omega]
theorem wire_Put.Arr.reads {m g nm : Nat} {w W : World} {A : Addr} (h : W.heap[g]? = some (.cells (wire_Put.arr m 8) 99 (0, 0))) (hn : nm ≤ 8) (hA : 0 < nm → A = ⟨g, 8 - nm, none⟩) : (Kd.int .u8).C W (some A) nm (((List.range 8).map (wire_Put.byte m)).drop (8 - nm)) := by
  refine Kd.C_of_reads (d := 0) ⟨by simp; omega, by omega, fun h0 => ⟨A, rfl, fun j hj => ?_⟩⟩
  rw [hA h0]
  have e : (⟨g, 8 - nm, none⟩ : Addr).add j = ⟨g, 8 - nm + j, none⟩ := by unfold Addr.add; split <;> simp_all
  rw [e, cell_of_row W g _ _ _ _ h]
  have hlt : 8 - nm + j < 8 := by omega
  simp [wire_Put.arr, List.getD_eq_getElem?_getD, List.getElem?_drop, List.getElem?_range, hlt]
set_option maxHeartbeats 400000 in
set_option maxRecDepth 100000 in
theorem wire_Put.calls (P0_ : Nat → Prop) (u9000_ : Value) (l0 : List Int) (a1 : Int) (r : List Int) (w0 w : World) (hB : Below w0.heap.size w0 w) (ho0 : Kd.R (Kd.int .u8) 5 w w0.heap.size P0_ u9000_ l0) (h : wire_Put.f l0 a1 = some r) :
    Calls Try.prog 65 #[u9000_, .int .i64 a1] w fun e w' => ∃ v0_ : Value, e = .returned (v0_) ∧ Kd.R (Kd.int .u8) 5 w' w0.heap.size (fun k_ => (P0_ k_ ∨ w.heap.size ≤ k_)) v0_ r ∧ Below w0.heap.size w0 w' ∧ Kept w w' (fun k_ => P0_ k_) := by
  unfold wire_Put.f at h
  split at h
  rotate_left
  · cases h
  rename_i hc
  obtain rfl := Option.some.inj h
  obtain ⟨hlo, hhi, hlen⟩ := hc
  clear h
  have HO := Lib.hid ho0; clear ho0
  obtain ⟨m, hm⟩ : ∃ m : Nat, (m : Int) = a1.natAbs := ⟨_, rfl⟩
  have hmb : m ≤ 9223372036854775808 := by omega
  have HM := Lib.hid hm; clear hm
  have hbl := wire_Put.bitLen_le m
  obtain ⟨bn, hbn⟩ : ∃ bn, Lib.bitLen m = bn := ⟨_, rfl⟩
  rw [hbn] at hbl
  obtain ⟨nm, hnm⟩ : ∃ nm : Nat, ((bn : Int) + 7) / 8 = (nm : Int) := ⟨(bn + 7) / 8, by omega⟩
  have hnm8 : nm ≤ 8 := by omega
  have hw8 : wrap64 (8 - (nm : Int)) = 8 - (nm : Int) := by unfold wrap64; omega
  have hwu : IntKind.u8.wrap (nm : Int) = (nm : Int) := by rw [IntKind.wrap_u8]; omega
  have HP : Hid (wire_Put.bytes a1 = bits .or .u8 (if a1 < 0 then 128 else 0) (nm : Int) :: ((List.range 8).map (wire_Put.byte m)).drop (8 - nm)) := by
    refine Lib.hid ?_
    have e : a1.natAbs = m := by have := HM.out; omega
    have e2 : wire_Put.many a1 = nm := by unfold wire_Put.many; rw [e, hbn]; omega
    unfold wire_Put.bytes
    rw [e2, e]
  have HBN := Lib.hid hbn; clear hbn
  have HS : ∃ h0 : Int, Hid ((if a1 < 0 then 128 else 0) = h0) ∧ (a1 < 0 ∧ h0 = 128 ∧ IntKind.u64.wrap (-(IntKind.u64.wrap a1)) = (m : Int) ∨ 0 ≤ a1 ∧ h0 = 0 ∧ IntKind.u64.wrap a1 = (m : Int)) := by
    have hm := HM.out
    by_cases hn : a1 < 0
    · exact ⟨128, Lib.hid (by rw [if_pos hn]), .inl ⟨hn, rfl, by rw [IntKind.wrap_u64, IntKind.wrap_u64]; omega⟩⟩
    · exact ⟨0, Lib.hid (by rw [if_neg hn]), .inr ⟨by omega, rfl, by rw [IntKind.wrap_u64]; omega⟩⟩
  obtain ⟨h0, HH, hcase⟩ := HS
  obtain ⟨hv, hhv⟩ : ∃ hv, bits .or .u8 h0 (nm : Int) = hv := ⟨_, rfl⟩
  have HV := Lib.hid (show wire_Put.bytes a1 = hv :: ((List.range 8).map (wire_Put.byte m)).drop (8 - nm) by rw [HP.out, HH.out, hhv])
  clear HP HH HM
  rcases hcase with ⟨hn, rfl, e1⟩ | ⟨hn, rfl, e1⟩
  all_goals (first | have hd : decide (a1 < 0) = true := decide_eq_true hn | have hd : decide (a1 < 0) = false := decide_eq_false (by omega))
  all_goals
    go_enter Try.func65, Try.ntmps65
    go_wp2_with (go_at_call 81; refine (bits_Len64.calls (m : Int) (bn : Int) _ (by unfold bits_Len64.f; rw [if_pos (by omega), Int.toNat_natCast, HBN.out])).mono ?_; rintro e w' ⟨rfl, hd⟩)
    obtain ⟨Aa, hAa, hcut⟩ := wire_Put.cutArr w'.heap.size nm hnm8
    have HAa := Lib.hid hAa; clear hAa
    have ha := wire_Put.Arr.first m w' _ rfl
    have HA := Lib.hid ha; clear ha
    go_loopw [20] (fun v20 wr => ∃ k : Nat, k ≤ 8 ∧ v20 = .int .i64 k ∧ Hid (wire_Put.Arr m w'.heap.size k w' wr)) (fun v20 _ => 8 - (intOf v20).toNat)
    case atStart => exact ⟨0, by omega, rfl, HA⟩
    case round =>
      clear HA
      obtain ⟨k, hk, rfl, HA⟩ := hrel
      by_cases hk8 : k < 8
      · have hcell := HA.out.cell k hk8
        have hfr := HA.out.frozen k
        clear hcut hhv hwu hw8
        go_wp2
        go_roundw
        case rel => exact ⟨k + 1, by omega, by go_num, Lib.hid (HA.out.step hk8)⟩
        case measure => simp [intOf]; omega
      · obtain rfl : k = 8 := by omega
        go_wp2
        have hs1 := hd.below
        have hs2 := HA.out.below
        have hs3 := HA.out.blk
        have hb := below_drew1 (below_then hs1 hs1.size hs2)
        have HBW := Lib.hid hb; have HBL := Lib.hid (show wr.drew.heap[w'.heap.size]? = _ from hs3)
        clear HA hs1 hs2 hs3 hb
        refine start_ (n := 12) (S := fun w' => True) (ds := []) #[false, false, false, false, false, false, false, false, false, false, false, false] (by kernel_rfl) rfl rfl trivial (fun hHeld => ?_)
        generalize wr.drew = W1 at HBW HBL ⊢
        refine pure_ (i := 0) (N := some 32) (v := ?_) (a' := ?_) #[true, false, false, false, false, false, false, false, false, false, false, false] rfl rfl (by kernel_rfl) (fun _ _ _ h => h) (Or.inl ⟨by rfl, ?_⟩) ?_ ?_
        rotate_left
        · intro w'
          go_simp
          with_reducible rfl
        rotate_left
        · simp only [Act.put, List.setIfInBounds_toArray, List.set_cons_zero, List.set_cons_succ, i64_w, i32_w]
          rfl
        refine pure_ (i := 1) (N := some 33) (v := ?_) (a' := ?_) #[true, true, false, false, false, false, false, false, false, false, false, false] rfl rfl (by kernel_rfl) (fun _ _ _ h => h) (Or.inl ⟨by rfl, ?_⟩) ?_ ?_
        rotate_left
        · intro w'
          go_simp
          with_reducible rfl
        rotate_left
        · simp only [Act.put, List.setIfInBounds_toArray, List.set_cons_zero, List.set_cons_succ, i64_w, i32_w]
          rfl
        refine pure_ (i := 2) (N := some 34) (v := ?_) (a' := ?_) #[true, true, true, false, false, false, false, false, false, false, false, false] rfl rfl (by kernel_rfl) (fun _ _ _ h => h) (Or.inl ⟨by rfl, ?_⟩) ?_ ?_
        rotate_left
        · intro w'
          go_simp
          with_reducible rfl
        rotate_left
        · simp only [Act.put, List.setIfInBounds_toArray, List.set_cons_zero, List.set_cons_succ, i64_w, i32_w]
          rfl
        refine pure_ (i := 3) (N := some 35) (v := ?_) (a' := ?_) #[true, true, true, true, false, false, false, false, false, false, false, false] rfl rfl (by kernel_rfl) (fun _ _ _ h => h) (Or.inl ⟨by rfl, ?_⟩) ?_ ?_
        rotate_left
        · intro w'
          go_simp
          with_reducible rfl
        rotate_left
        · simp only [Act.put, List.setIfInBounds_toArray, List.set_cons_zero, List.set_cons_succ, i64_w, i32_w]
          rfl
        refine pure_ (i := 4) (N := some 36) (v := ?_) (a' := ?_) #[true, true, true, true, true, false, false, false, false, false, false, false] rfl rfl (by kernel_rfl) (fun _ _ _ h => h) (Or.inl ⟨by rfl, ?_⟩) ?_ ?_
        rotate_left
        · intro w'
          go_simp
          with_reducible rfl
        rotate_left
        · simp only [Act.put, List.setIfInBounds_toArray, List.set_cons_zero, List.set_cons_succ, i64_w, i32_w]
          rfl
        refine pure_ (i := 7) (N := some 39) (v := ?_) (a' := ?_) #[true, true, true, true, true, false, false, true, false, false, false, false] rfl rfl (by kernel_rfl) (fun _ _ _ h => h) (Or.inl ⟨by rfl, ?_⟩) ?_ ?_
        rotate_left
        · intro w'
          go_simp
          with_reducible rfl
        rotate_left
        · simp only [Act.put, List.setIfInBounds_toArray, List.set_cons_zero, List.set_cons_succ, i64_w, i32_w]
          rfl
        refine pure_ (i := 8) (N := some 40) (v := ?_) (a' := ?_) #[true, true, true, true, true, false, false, true, true, false, false, false] rfl rfl (by kernel_rfl) (fun _ _ _ h => h) (Or.inl ⟨by rfl, ?_⟩) ?_ ?_
        rotate_left
        · intro w'
          go_simp
          with_reducible rfl
        rotate_left
        · simp only [Act.put, List.setIfInBounds_toArray, List.set_cons_zero, List.set_cons_succ, i64_w, i32_w]
          rfl
        refine pure_ (i := 9) (N := some 41) (v := ?_) (a' := ?_) #[true, true, true, true, true, false, false, true, true, true, false, false] rfl rfl (by kernel_rfl) (fun _ _ _ h => h) (Or.inl ⟨by rfl, ?_⟩) ?_ ?_
        rotate_left
        · intro w'
          go_simp
          with_reducible rfl
        rotate_left
        · simp only [Act.put, List.setIfInBounds_toArray, List.set_cons_zero, List.set_cons_succ, i64_w, i32_w]
          rfl
        refine one_ (i := 5) (N := some 37) #[true, true, true, true, true, true, false, true, true, true, false, false] rfl rfl (by kernel_rfl) (by decide) (fun K hK => ?_)
        refine event_step (w1 := W1.alloc (.cells #[.int .u8 hv] 5)) (v := .slice (some ⟨W1.heap.size, 0, none⟩) 1 1) rfl (by go_simp) ?_
        refine hK.out _ _ trivial (fun hHeld => ?_)
        clear hK K
        refine norm_ (a' := ?_) ?_ ?_
        rotate_left
        · show Act.put _ (some 37) _ = _
          simp only [Act.put, List.setIfInBounds_toArray, List.set_cons_zero, List.set_cons_succ, i64_w, i32_w]
          rfl
        have hsz := HBW.out.size
        have HO1 : Kd.R (Kd.int .u8) 5 W1 w0.heap.size (fun k_ => P0_ k_ ∨ w.heap.size ≤ k_) u9000_ l0 := Kd.R_mono (Kd.R_below HO.out HBW.out) (fun _ hk => .inl hk)
        have hne := Kd.R_ne HO1 HBL.out (by decide)
        have hB1 : Below w0.heap.size w0 W1 := below_then hB hB.size HBW.out
        refine one_ (i := 6) (N := some 38) #[true, true, true, true, true, true, true, true, true, true, false, false] rfl rfl (by kernel_rfl) (by decide) (fun K hK => ?_)
        refine Kd.R_append_step (Kd.int .u8) (w0 := w0) w0.heap.size rfl (.tmp 32) (.tmp 37) 41 5 (.int .u8 0) 1 rfl Try.underlying41 info5 rfl (by decide) (by decide) u9000_ l0 hv [.int .u8 hv] (fun k_ => P0_ k_ ∨ w.heap.size ≤ k_) (fun _ => False) rfl rfl rfl (fun _ h => h.elim) (fun k_ hk => .inr (Nat.le_trans hsz hk)) HO1 hB1 hB1.size (by omega) ?_
        intro v1 w1 HO2 hb2 hg2 hat2
        refine hK.out _ _ trivial (fun hHeld => ?_)
        clear hK K
        refine norm_ (a' := ?_) ?_ ?_
        rotate_left
        · show Act.put _ (some 38) _ = _
          simp only [Act.put, List.setIfInBounds_toArray, List.set_cons_zero, List.set_cons_succ, i64_w, i32_w]
          rfl
        have HC := wire_Put.Arr.reads (w := w') (nm := nm) (A := Aa) (blk_grown HBL.out hg2 hne) hnm8 HAa.out
        refine one_ (i := 10) (N := some 42) #[true, true, true, true, true, true, true, true, true, true, true, false] rfl rfl (by kernel_rfl) (by decide) (fun K hK => ?_)
        refine Kd.R_append_rows_step (Kd.int .u8) (w0 := w0) w0.heap.size rfl (.tmp 38) (.tmp 41) 41 5 (.int .u8 0) 1 rfl Try.underlying41 info5 rfl (by decide) (by decide) v1 (l0 ++ [hv]) (((List.range 8).map (wire_Put.byte m)).drop (8 - nm)) (some Aa) nm nm (fun k_ => P0_ k_ ∨ w.heap.size ≤ k_) (fun _ => False) rfl rfl HO2 HC (fun _ _ h => h) (fun _ h => h.elim) (fun k_ hk => .inr (Nat.le_trans hsz (Nat.le_trans hg2.size hk))) hb2 hb2.size (by simp; omega) ?_
        intro v2 w2 HO3 hb3 hg3 hat3
        refine hK.out _ _ trivial (fun hHeld => ?_)
        clear hK K
        refine norm_ (a' := ?_) ?_ ?_
        rotate_left
        · show Act.put _ (some 42) _ = _
          simp only [Act.put, List.setIfInBounds_toArray, List.set_cons_zero, List.set_cons_succ, i64_w, i32_w]
          rfl
        refine pure_ (i := 11) (N := some 4) (v := ?_) (a' := ?_) #[true, true, true, true, true, true, true, true, true, true, true, true] rfl rfl (by kernel_rfl) (fun _ _ _ h => h) (Or.inl ⟨by rfl, ?_⟩) ?_ ?_
        rotate_left
        · intro w'
          go_simp
          with_reducible rfl
        rotate_left
        · simp only [Act.put, List.setIfInBounds_toArray, List.set_cons_zero, List.set_cons_succ, i64_w, i32_w]
          rfl
        refine done_ (by kernel_rfl) ?_
        go_wp2
        go_ret
        refine ⟨_, rfl, ?_, hb3, ?_⟩
        · rw [HV.out, List.append_cons]; exact HO3
        · exact Kept.of_grown hg3 (Kept.of_grown hg2 (Kept.of_below HBW.out _) (fun k hk => HO1.1 k hk)) (fun k hk => HO2.1 k hk)


end Go.Proofs.Ytgcilfpoblijnaa.XK
