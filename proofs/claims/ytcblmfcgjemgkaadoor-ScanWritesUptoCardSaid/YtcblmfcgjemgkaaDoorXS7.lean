-- by px.py, a program of this session, over the kit's printer: functions given by hand stand beside printed ones. Lean checks all of it.
import Derived.Test.YtcblmfcgjemgkaaDoorXS0
import Derived.Test.YtcblmfcgjemgkaaDoorXS5
import Derived.Test.YtcblmfcgjemgkaaDoorXS6
namespace Go.Proofs.YtcblmfcgjemgkaaDoor.XS
open Go.RowKit Go.Proofs.YtcblmfcgjemgkaaDoorW.PrintWords Go.Proofs.YtcblmfcgjemgkaaDoorW.PrintLast Go.Proofs.YtcblmfcgjemgkaaDoorW.PrintMore
attribute [local go_sem] max2_int min2_int max_two min_two max_three min_three max_four min_four   -- for this text's walks alone
set_option linter.unusedVariables false
set_option linter.unusedSimpArgs false

/-! ### bellmanref10_tag: function 22 -/
mutual
def bellmanref10_tag.l0 : Nat → List ByteArray → List ByteArray → Int → Int → Option (Int × ByteArray × List ByteArray × Bool)
 | 0, _, _, _, _ => none
 | k + 1, x4, x11, x12, x13 => if x13 < x12 then (if 0 ≤ x13 then (if x13 < (x11.length : Int) then (if (rdOf ByteArray.empty x11 x13).toList = ([] : List UInt8) then (bellmanref10_tag.l0 k x4 x11 x12 (wrap64 (x13 + 1))) else (if x4.length < 8796093022208 then (bellmanref10_tag.l0 k (x4 ++ [rdOf ByteArray.empty x11 x13]) x11 x12 (wrap64 (x13 + 1))) else (none))) else (none)) else (none)) else (if (x4.length : Int) = 1 then (if 0 < (x4.length : Int) then (bellmanref10_tag.j1 k x4 ((rdOf ByteArray.empty x4 0).toList == ([101, 108, 115, 101] : List UInt8))) else (none)) else (bellmanref10_tag.j1 k x4 false))
def bellmanref10_tag.j1 : Nat → List ByteArray → Bool → Option (Int × ByteArray × List ByteArray × Bool)
 | 0, _, _ => none
 | k + 1, x4, x32 => if x32 = true then (some (4, (⟨#[]⟩ : ByteArray), ([] : List ByteArray), true)) else (if (x4.length : Int) = 1 then (if 0 < (x4.length : Int) then (bellmanref10_tag.j2 k x4 ((rdOf ByteArray.empty x4 0).toList == ([101, 110, 100] : List UInt8))) else (none)) else (bellmanref10_tag.j2 k x4 false))
def bellmanref10_tag.j2 : Nat → List ByteArray → Bool → Option (Int × ByteArray × List ByteArray × Bool)
 | 0, _, _ => none
 | k + 1, x4, x42 => if x42 = true then (some (6, (⟨#[]⟩ : ByteArray), ([] : List ByteArray), true)) else (if (x4.length : Int) = 2 then (if 0 < (x4.length : Int) then (bellmanref10_tag.j3 k x4 2 ((rdOf ByteArray.empty x4 0).toList == ([105, 102] : List UInt8))) else (none)) else (bellmanref10_tag.j3 k x4 2 false))
def bellmanref10_tag.j3 : Nat → List ByteArray → Int → Bool → Option (Int × ByteArray × List ByteArray × Bool)
 | 0, _, _, _ => none
 | k + 1, x4, x7, x52 => if x52 = true then (if 1 ≤ (x4.length : Int) then ((some (x4.drop (1 : Int).toNat : List ByteArray)).bind fun y170 => (if (y170.length : Int) = 1 then (if 0 < (y170.length : Int) then ((bellmanref10_Path.f k (rdOf ByteArray.empty y170 0)).bind fun bt174 => (some (3, (⟨#[]⟩ : ByteArray), bt174.1, (bt174.2 == 0)))) else (none)) else (some (0, (⟨#[]⟩ : ByteArray), ([] : List ByteArray), false)))) else (none)) else (if (x4.length : Int) = 2 then (if 0 < (x4.length : Int) then (bellmanref10_tag.j4 k x4 x7 ((rdOf ByteArray.empty x4 0).toList == ([101, 97, 99, 104] : List UInt8))) else (none)) else (bellmanref10_tag.j4 k x4 x7 false))
def bellmanref10_tag.j4 : Nat → List ByteArray → Int → Bool → Option (Int × ByteArray × List ByteArray × Bool)
 | 0, _, _, _ => none
 | k + 1, x4, x7, x63 => if x63 = true then (if 1 ≤ (x4.length : Int) then ((some (x4.drop (1 : Int).toNat : List ByteArray)).bind fun y179 => (if (y179.length : Int) = 1 then (if 0 < (y179.length : Int) then ((bellmanref10_Path.f k (rdOf ByteArray.empty y179 0)).bind fun bt183 => (some (5, (⟨#[]⟩ : ByteArray), bt183.1, (bt183.2 == 0)))) else (none)) else (some (0, (⟨#[]⟩ : ByteArray), ([] : List ByteArray), false)))) else (none)) else (if (x4.length : Int) = 1 then (if 0 < (x4.length : Int) then ((bellmanref10_Path.f k (rdOf ByteArray.empty x4 0)).bind fun bt188 => (some (x7, (⟨#[]⟩ : ByteArray), bt188.1, (bt188.2 == 0)))) else (none)) else (some (0, (⟨#[]⟩ : ByteArray), ([] : List ByteArray), false)))
end
def bellmanref10_tag.f (k : Nat) (a0 : ByteArray) : Option (Int × ByteArray × List ByteArray × Bool) := (bellmanref10_split.f k a0 32).bind fun t160 => (bellmanref10_tag.l0 k ([] : List ByteArray) t160 (t160.length : Int) 0)
theorem bellmanref10_tag.mono_l : ∀ k, (∀ y0 y1 y2 y3, LeO (bellmanref10_tag.l0 k y0 y1 y2 y3) (bellmanref10_tag.l0 (k + 1) y0 y1 y2 y3)) ∧ (∀ y0 y1, LeO (bellmanref10_tag.j1 k y0 y1) (bellmanref10_tag.j1 (k + 1) y0 y1)) ∧ (∀ y0 y1, LeO (bellmanref10_tag.j2 k y0 y1) (bellmanref10_tag.j2 (k + 1) y0 y1)) ∧ (∀ y0 y1 y2, LeO (bellmanref10_tag.j3 k y0 y1 y2) (bellmanref10_tag.j3 (k + 1) y0 y1 y2)) ∧ (∀ y0 y1 y2, LeO (bellmanref10_tag.j4 k y0 y1 y2) (bellmanref10_tag.j4 (k + 1) y0 y1 y2))
 | 0 => ⟨fun _ _ _ _ r h => by simp [bellmanref10_tag.l0] at h, fun _ _ r h => by simp [bellmanref10_tag.j1] at h, fun _ _ r h => by simp [bellmanref10_tag.j2] at h, fun _ _ _ r h => by simp [bellmanref10_tag.j3] at h, fun _ _ _ r h => by simp [bellmanref10_tag.j4] at h⟩
 | k + 1 => by
  obtain ⟨ih0, ih1, ih2, ih3, ih4⟩ := bellmanref10_tag.mono_l k
  refine ⟨?_, ?_, ?_, ?_, ?_⟩
  ·intro y0 y1 y2 y3
   unfold bellmanref10_tag.l0
   repeat' first
   | (with_reducible exact ih0 _ _ _ _)
   | (with_reducible exact ih1 _ _)
   | (with_reducible exact ih2 _ _)
   | (with_reducible exact ih3 _ _ _)
   | (with_reducible exact ih4 _ _ _)
   | (with_reducible exact bellmanref10_Path.mono _ _)
   | (with_reducible exact bellmanref10_split.mono _ _ _)
   | (with_reducible exact LeO.refl _)
   | (with_reducible exact LeO.none _)
   | (with_reducible refine LeO.ite ?_ ?_)
   | (with_reducible refine LeO.bind ?_ (fun _ => ?_))
   | exact ih0 _ _ _ _
   | exact ih1 _ _
   | exact ih2 _ _
   | exact ih3 _ _ _
   | exact ih4 _ _ _
   | exact bellmanref10_Path.mono _ _
   | exact bellmanref10_split.mono _ _ _
   | exact LeO.none _
   | refine LeO.ite ?_ ?_
   | refine LeO.bind ?_ (fun _ => ?_)
  ·intro y0 y1
   unfold bellmanref10_tag.j1
   repeat' first
   | (with_reducible exact ih0 _ _ _ _)
   | (with_reducible exact ih1 _ _)
   | (with_reducible exact ih2 _ _)
   | (with_reducible exact ih3 _ _ _)
   | (with_reducible exact ih4 _ _ _)
   | (with_reducible exact bellmanref10_Path.mono _ _)
   | (with_reducible exact bellmanref10_split.mono _ _ _)
   | (with_reducible exact LeO.refl _)
   | (with_reducible exact LeO.none _)
   | (with_reducible refine LeO.ite ?_ ?_)
   | (with_reducible refine LeO.bind ?_ (fun _ => ?_))
   | exact ih0 _ _ _ _
   | exact ih1 _ _
   | exact ih2 _ _
   | exact ih3 _ _ _
   | exact ih4 _ _ _
   | exact bellmanref10_Path.mono _ _
   | exact bellmanref10_split.mono _ _ _
   | exact LeO.none _
   | refine LeO.ite ?_ ?_
   | refine LeO.bind ?_ (fun _ => ?_)
  ·intro y0 y1
   unfold bellmanref10_tag.j2
   repeat' first
   | (with_reducible exact ih0 _ _ _ _)
   | (with_reducible exact ih1 _ _)
   | (with_reducible exact ih2 _ _)
   | (with_reducible exact ih3 _ _ _)
   | (with_reducible exact ih4 _ _ _)
   | (with_reducible exact bellmanref10_Path.mono _ _)
   | (with_reducible exact bellmanref10_split.mono _ _ _)
   | (with_reducible exact LeO.refl _)
   | (with_reducible exact LeO.none _)
   | (with_reducible refine LeO.ite ?_ ?_)
   | (with_reducible refine LeO.bind ?_ (fun _ => ?_))
   | exact ih0 _ _ _ _
   | exact ih1 _ _
   | exact ih2 _ _
   | exact ih3 _ _ _
   | exact ih4 _ _ _
   | exact bellmanref10_Path.mono _ _
   | exact bellmanref10_split.mono _ _ _
   | exact LeO.none _
   | refine LeO.ite ?_ ?_
   | refine LeO.bind ?_ (fun _ => ?_)
  ·intro y0 y1 y2
   unfold bellmanref10_tag.j3
   repeat' first
   | (with_reducible exact ih0 _ _ _ _)
   | (with_reducible exact ih1 _ _)
   | (with_reducible exact ih2 _ _)
   | (with_reducible exact ih3 _ _ _)
   | (with_reducible exact ih4 _ _ _)
   | (with_reducible exact bellmanref10_Path.mono _ _)
   | (with_reducible exact bellmanref10_split.mono _ _ _)
   | (with_reducible exact LeO.refl _)
   | (with_reducible exact LeO.none _)
   | (with_reducible refine LeO.ite ?_ ?_)
   | (with_reducible refine LeO.bind ?_ (fun _ => ?_))
   | exact ih0 _ _ _ _
   | exact ih1 _ _
   | exact ih2 _ _
   | exact ih3 _ _ _
   | exact ih4 _ _ _
   | exact bellmanref10_Path.mono _ _
   | exact bellmanref10_split.mono _ _ _
   | exact LeO.none _
   | refine LeO.ite ?_ ?_
   | refine LeO.bind ?_ (fun _ => ?_)
  ·intro y0 y1 y2
   unfold bellmanref10_tag.j4
   repeat' first
   | (with_reducible exact ih0 _ _ _ _)
   | (with_reducible exact ih1 _ _)
   | (with_reducible exact ih2 _ _)
   | (with_reducible exact ih3 _ _ _)
   | (with_reducible exact ih4 _ _ _)
   | (with_reducible exact bellmanref10_Path.mono _ _)
   | (with_reducible exact bellmanref10_split.mono _ _ _)
   | (with_reducible exact LeO.refl _)
   | (with_reducible exact LeO.none _)
   | (with_reducible refine LeO.ite ?_ ?_)
   | (with_reducible refine LeO.bind ?_ (fun _ => ?_))
   | exact ih0 _ _ _ _
   | exact ih1 _ _
   | exact ih2 _ _
   | exact ih3 _ _ _
   | exact ih4 _ _ _
   | exact bellmanref10_Path.mono _ _
   | exact bellmanref10_split.mono _ _ _
   | exact LeO.none _
   | refine LeO.ite ?_ ?_
   | refine LeO.bind ?_ (fun _ => ?_)
theorem bellmanref10_tag.mono : ∀ a0 k, LeO (bellmanref10_tag.f k a0) (bellmanref10_tag.f (k + 1) a0) := by
 intro a0 k
 obtain ⟨ih0, ih1, ih2, ih3, ih4⟩ := bellmanref10_tag.mono_l k
 unfold bellmanref10_tag.f
 repeat' first
   | (with_reducible exact ih0 _ _ _ _)
   | (with_reducible exact ih1 _ _)
   | (with_reducible exact ih2 _ _)
   | (with_reducible exact ih3 _ _ _)
   | (with_reducible exact ih4 _ _ _)
   | (with_reducible exact bellmanref10_Path.mono _ _)
   | (with_reducible exact bellmanref10_split.mono _ _ _)
   | (with_reducible exact LeO.refl _)
   | (with_reducible exact LeO.none _)
   | (with_reducible refine LeO.ite ?_ ?_)
   | (with_reducible refine LeO.bind ?_ (fun _ => ?_))
   | exact ih0 _ _ _ _
   | exact ih1 _ _
   | exact ih2 _ _
   | exact ih3 _ _ _
   | exact ih4 _ _ _
   | exact bellmanref10_Path.mono _ _
   | exact bellmanref10_split.mono _ _ _
   | exact LeO.none _
   | refine LeO.ite ?_ ?_
   | refine LeO.bind ?_ (fun _ => ?_)
set_option maxHeartbeats 8000000 in
set_option maxRecDepth 100000 in
theorem bellmanref10_tag.calls (k : Nat) (a0 : ByteArray) (r1 : Int) (r2 : ByteArray) (r3 : List ByteArray) (r4 : Bool) (w : World) (h : bellmanref10_tag.f k a0 = some (r1, r2, r3, r4)) :
  Calls Tryd.prog 22 #[.string a0] w fun e w' => ∃ v2_ : Value, e = .returned (.tuple #[.agg #[.int .u8 r1, .string r2, v2_], .bool r4]) ∧ Kd.R Kd.string 9 w' w.heap.size (fun _ => True) v2_ r3 ∧ Below w.heap.size w w' := by
 have hu40 := Tryd.underlying40
 have HB := Aside0.mk (Below.refl w.heap.size w)
 have H : ((bellmanref10_split.f k a0 32).bind fun t160 => (bellmanref10_tag.l0 k ([] : List ByteArray) t160 (t160.length : Int) 0)) = some (r1, r2, r3, r4) := h
 clear h
 replace H := Option.bind_eq_some_iff.mp H
 obtain ⟨t160, A20, H⟩ := H
 replace H : (bellmanref10_tag.l0 k ([] : List ByteArray) t160 (t160.length : Int) 0) = some (r1, r2, r3, r4) := H
 have A2 := Aside0.mk A20
 clear A20
 have H' := Aside0.mk H
 clear H
 go_enter Tryd.func22, Tryd.ntmps22
 go_wp2_with (first | ((with_reducible refine gate_dst (N := 2) rfl ?_); refine box_event ?hg (N := 2) ?hd (cs := #[.int .u8 0, .string (⟨#[]⟩ : ByteArray), .slice none 0 0]) (t := 40) ?hr ?_; (case hd => rfl); (case hg => rfl); (case hr => first | (go_simp; done) | (go_simp; rfl)); intro gb159 hg w3 hbox hb; have n0_ := Aside0.mk (below_step (by repeat (first | (with_reducible first | exact HB.out | apply below_alloc | apply pw_below_drewN | apply below_drew1) | exact HB.out)) hb); have n1_ := Aside0.mk (hbox); have n2_ := Aside0.mk ((by rw [hg]; exact (below_size (by repeat (first | (with_reducible first | exact HB.out | apply below_alloc | apply pw_below_drewN | apply below_drew1) | exact HB.out))) : w.heap.size ≤ gb159)); have n3_ := Aside0.mk ((by rw [hg]; exact (below_size (by repeat (first | (with_reducible first | exact HB.out | apply below_alloc | apply pw_below_drewN | apply below_drew1) | exact HB.out))) : w.heap.size ≤ gb159)); clear HB; have HB := n0_; have BK159 := n1_; have GW159 := n2_; have GE159 := n3_; clear n0_ n1_ n2_ n3_; clear hb hbox hg) | ((with_reducible refine gate_callee (f := 25) rfl ?_); refine goesL_ (some 11) rfl rfl Tryd.func25 (by kernel_rfl) rfl #[.string a0, .int .u8 32] rfl (by (try simp only [List.map_toArray, List.map_cons, List.map_nil]); first | done | rfl | (simp only [List.length_drop, List.length_take]; rfl)) ?_; (with_reducible refine (bellmanref10_split.calls k a0 32 t160 _ A2.out).mono ?_); rintro e w4 ⟨v161, rfl, ho0, hb⟩; refine ⟨_, rfl, ?_⟩; have n0_ := Aside0.mk (Kd.R_lower ho0 (below_size (by repeat (first | (with_reducible first | exact HB.out | apply below_alloc | apply pw_below_drewN | apply below_drew1 | refine below_set ?_ GE159.out) | exact HB.out)))); have n1_ := Aside0.mk (blk_below (g := gb159) (o := .cells #[.int .u8 0, .string (⟨#[]⟩ : ByteArray), .slice none 0 0] 40 (0, 0)) (by (with_reducible repeat (first | refine blk_drewN ?_ _ | refine blk_drew ?_ | refine blk_alloc ?_ _)); exact BK159.out) hb); have n2_ := Aside0.mk (below_step (by repeat (first | (with_reducible first | exact HB.out | apply below_alloc | apply pw_below_drewN | apply below_drew1 | refine below_set ?_ GE159.out) | exact HB.out)) hb); clear BK159; clear HB; have HO162 := n0_; have BK159 := n1_; have HB := n2_; clear n0_ n1_ n2_; (try clear hb); (try clear hb2); (try clear hk); (try clear hi); (try clear ho0); obtain ⟨Ao5, co5, eo5⟩ := Kd.R_slice HO162.out; subst eo5))
 go_loopg [4, 13] k (fun kq v4 v13 w' => ∃ (x4_1 : List ByteArray) (x13_1 : Int), v13 = .int .i64 x13_1 ∧ Aside0 (bellmanref10_tag.l0 kq x4_1 t160 (t160.length : Int) x13_1 = some (r1, r2, r3, r4)) ∧ Aside0 (kq ≤ k) ∧ Aside0 (Kd.Q Kd.string 9 w' w.heap.size (fun k_ => some k_ ≠ ((.slice Ao5 t160.length co5) : Value).ownBlock) v4 x4_1) ∧ Aside0 (Kd.R Kd.string 9 w' w.heap.size (fun k_ => some k_ ≠ (v4 : Value).ownBlock) (.slice Ao5 t160.length co5) t160) ∧ Aside0 (w'.heap[gb159]? = some (.cells #[.int .u8 0, .string (⟨#[]⟩ : ByteArray), (.slice none 0 0)] 40 (0, 0))) ∧ Aside0 (Below w.heap.size w w'))
 case atStart => exact ⟨(([] : List ByteArray)), (0), (by first | rfl | (simp; done) | (simp [*]; done)), H', ⟨Nat.le_refl _⟩, ⟨Kd.Q_of_R (by first | exact Kd.R_nil _ _ _ _ _ | exact Kd.N_nil _ _ _ _ _ | exact Kd.V_nil _ _ _ _ _ | exact Kd.Q_nil _ _ _ _ _ | exact Kd.S_nil _ _ _ _ _)⟩, ⟨by (with_reducible repeat (first | apply Kd.R_alloc | apply Kd.R_drewN | apply Kd.R_drew)); exact Kd.R_mono HO162.out (fun _ hk => (by simp [Value.ownBlock]))⟩, ⟨by (with_reducible repeat (first | refine blk_drewN ?_ _ | refine blk_drew ?_ | refine blk_alloc ?_ _)); exact BK159.out⟩, ⟨by repeat (first | (with_reducible first | exact HB.out | apply below_alloc | apply pw_below_drewN | apply below_drew1 | refine below_set ?_ GE159.out) | exact HB.out)⟩⟩
 case round =>
  clear H'
  try clear c2
  try clear p2
  obtain ⟨x4_1, x13_1, rfl, HA, HK1, HO_4, HO_11, BK159, HB⟩ := hrel
  cases gk with
  | zero => exact absurd HA.out (by simp [bellmanref10_tag.l0])
  | succ k1 =>
   have H := HA.out
   clear HA
   simp only [bellmanref10_tag.l0] at H
   by_cases c6 : x13_1 < (t160.length : Int)
   ·rw [if_pos c6] at H
    have c6b0 : decide (x13_1 < (t160.length : Int)) = true := decide_eq_true c6
    clear c6
    by_cases c7 : 0 ≤ x13_1
    ·rw [if_pos c7] at H
     have c7b0 : decide (0 ≤ x13_1) = true := decide_eq_true c7
     clear c7
     by_cases c8 : x13_1 < (t160.length : Int)
     ·rw [if_pos c8] at H
      have c8b0 : decide (x13_1 < (t160.length : Int)) = true := decide_eq_true c8
      clear c8
      by_cases c9 : (rdOf ByteArray.empty t160 x13_1).toList = ([] : List UInt8)
      ·rw [if_pos c9] at H
       have c9b0 : ((rdOf ByteArray.empty t160 x13_1).toList == ([] : List UInt8)) = true := beq_iff_eq.mpr c9
       have c9b1 : ((rdOf ByteArray.empty t160 x13_1).toList != ([] : List UInt8)) = false := bne_eq_false_iff_eq.mpr c9
       clear c9
       have H' := Aside0.mk H
       clear H
       have p163 : 0 ≤ (x13_1 : Int) := of_decide_eq_true (by first | (with_reducible assumption) | assumption)
       have q163 : x13_1 < (t160.length : Int) := of_decide_eq_true (by first | (with_reducible assumption) | assumption)
       obtain ⟨ad163, e163, hx163_0⟩ := Kd.at_string (Kd.R_reads' HO_11.out).2.2 x13_1 p163 q163
       cases e163
       replace p163 := eq_true p163
       replace q163 := eq_true q163
       go_wp2
       go_roundg k1
       case measure => have := HK1.out; omega
       case rel => exact ⟨(x4_1), (wrap64 (x13_1 + 1)), (by first | rfl | (simp; done) | (simp [*]; done)), H', ⟨by have := HK1.out; omega⟩, ⟨by (with_reducible repeat (first | apply Kd.Q_alloc | apply Kd.Q_drewN | apply Kd.Q_drew)); exact HO_4.out⟩, ⟨by (with_reducible repeat (first | apply Kd.R_alloc | apply Kd.R_drewN | apply Kd.R_drew)); exact HO_11.out⟩, ⟨by (with_reducible repeat (first | refine blk_drewN ?_ _ | refine blk_drew ?_ | refine blk_alloc ?_ _)); exact BK159.out⟩, ⟨by repeat (first | (with_reducible first | exact HB.out | apply below_alloc | apply pw_below_drewN | apply below_drew1 | refine below_set ?_ GE159.out) | exact HB.out)⟩⟩
      ·rw [if_neg c9] at H
       have c9b0 : ((rdOf ByteArray.empty t160 x13_1).toList == ([] : List UInt8)) = false := beq_eq_false_iff_ne.mpr c9
       have c9b1 : ((rdOf ByteArray.empty t160 x13_1).toList != ([] : List UInt8)) = true := bne_iff_ne.mpr c9
       by_cases c10 : x4_1.length < 8796093022208
       ·rw [if_pos c10] at H
        have LMc10 := Aside0.mk c10
        clear c10
        obtain ⟨y164, hy164⟩ : ∃ y_ : List ByteArray, y_ = (x4_1 ++ [rdOf ByteArray.empty t160 x13_1]) := ⟨_, rfl⟩
        replace H : (bellmanref10_tag.l0 k1 y164 t160 (t160.length : Int) (wrap64 (x13_1 + 1))) = some (r1, r2, r3, r4) := by first | (rw [hy164]; with_reducible exact H) | (have H2_ := (Option.bind_some _ _).symm.trans H; rw [hy164]; with_reducible exact H2_) | (have H2_ := (Option.bind_some _ _).symm.trans H; with_reducible exact H2_) | with_reducible exact H | (rw [hy164]; exact H) | exact H
        have Ny164 := Aside0.mk hy164
        clear hy164
        have H' := Aside0.mk H
        clear H
        have p163 : 0 ≤ (x13_1 : Int) := of_decide_eq_true (by first | (with_reducible assumption) | assumption)
        have q163 : x13_1 < (t160.length : Int) := of_decide_eq_true (by first | (with_reducible assumption) | assumption)
        obtain ⟨ad163, e163, hx163_0⟩ := Kd.at_string (Kd.R_reads' HO_11.out).2.2 x13_1 p163 q163
        cases e163
        replace p163 := eq_true p163
        replace q163 := eq_true q163
        go_wp2_with (first | ((with_reducible refine gate_builtin (b := .append) (xs := #[.tmp 19, .tmp 21]) rfl ?_); at_builtin; refine Kd.Q_append Kd.string (w0 := w) w.heap.size rfl (.tmp 19) (.tmp 21) 26 9 (.string ⟨#[]⟩) 16 rfl Tryd.underlying26 info9 rfl (by decide) (by omega) u4 x4_1 (rdOf ByteArray.empty t160 x13_1) [.string (rdOf ByteArray.empty t160 x13_1)] (fun k_ => some k_ ≠ (.slice (some ad163) t160.length co5 : Value).ownBlock) (fun _ => False) rfl rfl ?aP (fun _ hk => hk.elim) ?aF ?aO ?aB ?aS ?aL ?_; (case aP => exact rfl); (case aB => exact (by repeat (first | (with_reducible first | exact HB.out | apply below_alloc | apply pw_below_drewN | apply below_drew1 | refine below_set ?_ GE159.out) | exact HB.out))); (case aF => exact (fun k_ hk => Kd.fresh' (Kd.R_lt (by (with_reducible repeat (first | apply Kd.R_alloc | apply Kd.R_drewN | apply Kd.R_drew)); exact HO_11.out)) k_ hk)); (case aO => exact (by (with_reducible repeat (first | apply Kd.Q_alloc | apply Kd.Q_drewN | apply Kd.Q_drew)); exact HO_4.out)); (case aS => exact (below_size (by repeat (first | (with_reducible first | exact HB.out | apply below_alloc | apply pw_below_drewN | apply below_drew1 | refine below_set ?_ GE159.out) | exact HB.out)))); (case aL => have := LMc10.out; omega); intro v165 w11 ho hb hg hat; rw [← Ny164.out] at ho; have n0_ := Aside0.mk (Kd.R_after (ok := (fun _ => True)) (by (with_reducible repeat (first | apply Kd.R_alloc | apply Kd.R_drewN | apply Kd.R_drew)); exact Kd.R_mono HO_11.out (fun _ hk => ⟨trivial, hk⟩)) hg hat); have n1_ := Aside0.mk (blk_grown (g := gb159) (o := .cells #[.int .u8 0, .string (⟨#[]⟩ : ByteArray), .slice none 0 0] 40 (0, 0)) (by (with_reducible repeat (first | refine blk_drewN ?_ _ | refine blk_drew ?_ | refine blk_alloc ?_ _)); exact BK159.out) hg (Kd.Q_ne HO_4.out BK159.out (by decide))); have n2_ := Aside0.mk (hb); have n3_ := Aside0.mk (ho); clear HO_11; clear BK159; clear HB; clear HO_4; have HO_11 := n0_; have BK159 := n1_; have HB := n2_; have HO166 := n3_; clear n0_ n1_ n2_ n3_; clear ho hb hg hat))
        go_roundg k1
        case measure => have := HK1.out; omega
        case rel => exact ⟨(y164), (wrap64 (x13_1 + 1)), (by first | rfl | (simp; done) | (simp [*]; done)), H', ⟨by have := HK1.out; omega⟩, ⟨by (with_reducible repeat (first | apply Kd.Q_alloc | apply Kd.Q_drewN | apply Kd.Q_drew)); exact HO166.out⟩, ⟨by (with_reducible repeat (first | apply Kd.R_alloc | apply Kd.R_drewN | apply Kd.R_drew)); exact Kd.R_mono HO_11.out (fun _ hk => hk.2)⟩, ⟨by (with_reducible repeat (first | refine blk_drewN ?_ _ | refine blk_drew ?_ | refine blk_alloc ?_ _)); exact BK159.out⟩, ⟨by repeat (first | (with_reducible first | exact HB.out | apply below_alloc | apply pw_below_drewN | apply below_drew1 | refine below_set ?_ GE159.out) | exact HB.out)⟩⟩
       ·rw [if_neg c10] at H
        exact absurd H (by simp)
     ·rw [if_neg c8] at H
      exact absurd H (by simp)
    ·rw [if_neg c7] at H
     exact absurd H (by simp)
   ·rw [if_neg c6] at H
    have c6b0 : decide (x13_1 < (t160.length : Int)) = false := decide_eq_false c6
    clear c6
    have HC12 := Aside0.mk H
    clear H
    go_upto_region 8 with (fail)
    go_cut [32] (fun v32 wc => ∃ (kq : Nat) (x32_11 : Bool), v32 = .bool x32_11 ∧ Aside0 (bellmanref10_tag.j1 kq x4_1 x32_11 = some (r1, r2, r3, r4)) ∧ Aside0 (kq ≤ k1) ∧ Aside0 (Kd.Q Kd.string 9 wc w.heap.size (fun _ => True) u4 x4_1) ∧ Aside0 (wc.heap[gb159]? = some (.cells #[.int .u8 0, .string (⟨#[]⟩ : ByteArray), (.slice none 0 0)] 40 (0, 0))) ∧ Aside0 (Below w.heap.size w wc))
    case first =>
     have H := HC12.out
     clear HC12
     by_cases c13 : (x4_1.length : Int) = 1
     ·rw [if_pos c13] at H
      have c13b0 : ((x4_1.length : Int) == 1) = true := beq_iff_eq.mpr c13
      have c13b1 : ((x4_1.length : Int) != 1) = false := bne_eq_false_iff_eq.mpr c13
      clear c13
      (first | rw [c13b0] | (simp only [i64_w, i32_w]; rw [c13b0]) | skip)
      by_cases c14 : 0 < (x4_1.length : Int)
      ·rw [if_pos c14] at H
       have c14b0 : decide (0 < (x4_1.length : Int)) = true := decide_eq_true c14
       have c14b1 : decide (0 < x4_1.length) = true := decide_eq_true (by omega)
       clear c14
       have H' := Aside0.mk H
       clear H
       obtain ⟨Ao15, co15, eo15, _⟩ := Kd.Q_slice HO_4.out
       subst eo15
       have p167 : 0 ≤ (0 : Int) := (by omega)
       have q167 : 0 < (x4_1.length : Int) := of_decide_eq_true (by first | (with_reducible assumption) | assumption)
       obtain ⟨ad167, e167, hx167_0⟩ := Kd.at_string (Kd.Q_reads' HO_4.out).2.2 0 p167 q167
       cases e167
       have qi167 : (0 < x4_1.length) = True := eq_true (by omega)
       (try rw [show ((0 : Int)).toNat = 0 from rfl] at hx167_0)
       (try rw [Addr.add_zero'] at hx167_0)
       replace p167 := eq_true p167
       replace q167 := eq_true q167
       go_wp2
       go_meet
       case rel => exact ⟨_, (((rdOf ByteArray.empty x4_1 0).toList == ([101, 108, 115, 101] : List UInt8))), (by first | rfl | (simp; done) | (simp [*]; done)), H', ⟨by have := HK1.out; first | omega | exact Nat.le_refl _⟩, ⟨by (with_reducible repeat (first | apply Kd.Q_alloc | apply Kd.Q_drewN | apply Kd.Q_drew)); exact Kd.Q_mono HO_4.out (fun _ hk => trivial)⟩, ⟨by (with_reducible repeat (first | refine blk_drewN ?_ _ | refine blk_drew ?_ | refine blk_alloc ?_ _)); exact BK159.out⟩, ⟨by repeat (first | (with_reducible first | exact HB.out | apply below_alloc | apply pw_below_drewN | apply below_drew1 | refine below_set ?_ GE159.out) | exact HB.out)⟩⟩
      ·rw [if_neg c14] at H
       exact absurd H (by simp)
     ·rw [if_neg c13] at H
      have c13b0 : ((x4_1.length : Int) == 1) = false := beq_eq_false_iff_ne.mpr c13
      have c13b1 : ((x4_1.length : Int) != 1) = true := bne_iff_ne.mpr c13
      (first | rw [c13b0] | (simp only [i64_w, i32_w]; rw [c13b0]) | skip)
      have H' := Aside0.mk H
      clear H
      obtain ⟨Ao16, co16, eo16, _⟩ := Kd.Q_slice HO_4.out
      subst eo16
      go_wp2
      go_meet
      case rel => exact ⟨_, (false), (by first | rfl | (simp; done) | (simp [*]; done)), H', ⟨by have := HK1.out; first | omega | exact Nat.le_refl _⟩, ⟨by (with_reducible repeat (first | apply Kd.Q_alloc | apply Kd.Q_drewN | apply Kd.Q_drew)); exact Kd.Q_mono HO_4.out (fun _ hk => trivial)⟩, ⟨by (with_reducible repeat (first | refine blk_drewN ?_ _ | refine blk_drew ?_ | refine blk_alloc ?_ _)); exact BK159.out⟩, ⟨by repeat (first | (with_reducible first | exact HB.out | apply below_alloc | apply pw_below_drewN | apply below_drew1 | refine below_set ?_ GE159.out) | exact HB.out)⟩⟩
    case rest =>
     clear HC12
     try clear c1
     try clear p1
     try clear q1
     try clear hx1
     try clear qi1
     try clear c2
     try clear p2
     try clear c6
     try clear c6b0
     try clear p6
     try clear c7
     try clear c7b0
     try clear c8
     try clear c8b0
     try clear c9
     try clear c9b0
     try clear c9b1
     try clear c10
     try clear c13
     try clear c13b0
     try clear c13b1
     try clear c14
     try clear c14b0
     try clear c14b1
     try clear p16
     try clear q16
     try clear hx16
     try clear qi16
     try clear hx163_0
     try clear hx167_0
     try clear p163
     try clear p167
     try clear p2
     try clear q163
     try clear q167
     obtain ⟨kq, x32_11, rfl, HA, HJ11, HO_4, BK159, HB⟩ := hcut
     cases kq with
     | zero => exact absurd HA.out (by simp [bellmanref10_tag.j1])
     | succ kj11 =>
      have H := HA.out
      clear HA
      simp only [bellmanref10_tag.j1] at H
      by_cases c17 : x32_11 = true
      ·subst c17
       have H1 : (some (4, (⟨#[]⟩ : ByteArray), ([] : List ByteArray), true)) = some (r1, r2, r3, r4) := by rw [if_pos rfl] at H; exact H
       clear H
       have H := H1
       clear H1
       simp only [Option.some.injEq, Prod.mk.injEq] at H
       obtain ⟨rfl, rfl, rfl, rfl⟩ := H
       have hcz18_0 : wc.cell? ⟨gb159, 0, none⟩ = some (.int .u8 0) := (blk_cell BK159.out 0).trans rfl
       have hcz18_1 : wc.cell? ⟨gb159, 1, none⟩ = some (.string (⟨#[]⟩ : ByteArray)) := (blk_cell BK159.out 1).trans rfl
       have hcz18_2 : wc.cell? ⟨gb159, 2, none⟩ = some (.slice none 0 0) := (blk_cell BK159.out 2).trans rfl
       have hfz18_0 := blk_frozen BK159.out 0
       have hfz18_1 := blk_frozen BK159.out 1
       have hfz18_2 := blk_frozen BK159.out 2
       go_wp2
       refine bodyPost_ret (results_ct rfl _ _ gb159 40 #[.int .u8 4, .string (⟨#[]⟩ : ByteArray), .slice none 0 0] (0, 0) _ rfl (by (with_reducible repeat (first | refine blk_drewN ?_ _ | refine blk_drew ?_ | refine blk_alloc ?_ _)); refine blk_put (cs := #[.int .u8 4, .string (⟨#[]⟩ : ByteArray), .slice none 0 0]) ?_ 2 _ rfl; (with_reducible repeat (first | refine blk_drewN ?_ _ | refine blk_drew ?_ | refine blk_alloc ?_ _)); refine blk_put (cs := #[.int .u8 4, .string (⟨#[]⟩ : ByteArray), .slice none 0 0]) ?_ 1 _ rfl; (with_reducible repeat (first | refine blk_drewN ?_ _ | refine blk_drew ?_ | refine blk_alloc ?_ _)); refine blk_put (cs := #[.int .u8 0, .string (⟨#[]⟩ : ByteArray), .slice none 0 0]) ?_ 0 _ rfl; (with_reducible repeat (first | refine blk_drewN ?_ _ | refine blk_drew ?_ | refine blk_alloc ?_ _)); exact BK159.out) Tryd.underlying40 rfl (by kernel_rfl)) rfl ?_
       exact ⟨_, by first | rfl | (simp [errW_none, errW_some] <;> rfl) | (simp [*, errW_none, errW_some] <;> rfl), by first | exact Kd.R_nil _ _ _ _ _ | exact Kd.N_nil _ _ _ _ _ | exact Kd.V_nil _ _ _ _ _ | exact Kd.Q_nil _ _ _ _ _ | exact Kd.S_nil _ _ _ _ _, by repeat (first | (with_reducible first | exact HB.out | apply below_alloc | apply pw_below_drewN | apply below_drew1 | refine below_set ?_ GE159.out) | exact HB.out)⟩
      ·replace c17 := Bool.eq_false_iff.mpr c17
       subst c17
       have H1 : (if (x4_1.length : Int) = 1 then (if 0 < (x4_1.length : Int) then (bellmanref10_tag.j2 kj11 x4_1 ((rdOf ByteArray.empty x4_1 0).toList == ([101, 110, 100] : List UInt8))) else (none)) else (bellmanref10_tag.j2 kj11 x4_1 false)) = some (r1, r2, r3, r4) := by rw [if_neg (show ¬ (false = true) by decide)] at H; exact H
       clear H
       have H := H1
       clear H1
       have HC19 := Aside0.mk H
       clear H
       go_upto_region 10 with (fail)
       go_cut [42] (fun v42 wc => ∃ (kq : Nat) (x42_18 : Bool), v42 = .bool x42_18 ∧ Aside0 (bellmanref10_tag.j2 kq x4_1 x42_18 = some (r1, r2, r3, r4)) ∧ Aside0 (kq ≤ kj11) ∧ Aside0 (Kd.Q Kd.string 9 wc w.heap.size (fun _ => True) u4 x4_1) ∧ Aside0 (wc.heap[gb159]? = some (.cells #[.int .u8 0, .string (⟨#[]⟩ : ByteArray), (.slice none 0 0)] 40 (0, 0))) ∧ Aside0 (Below w.heap.size w wc))
       case first =>
        have H := HC19.out
        clear HC19
        by_cases c20 : (x4_1.length : Int) = 1
        ·rw [if_pos c20] at H
         have c20b0 : ((x4_1.length : Int) == 1) = true := beq_iff_eq.mpr c20
         have c20b1 : ((x4_1.length : Int) != 1) = false := bne_eq_false_iff_eq.mpr c20
         clear c20
         (first | rw [c20b0] | (simp only [i64_w, i32_w]; rw [c20b0]) | skip)
         by_cases c21 : 0 < (x4_1.length : Int)
         ·rw [if_pos c21] at H
          have c21b0 : decide (0 < (x4_1.length : Int)) = true := decide_eq_true c21
          have c21b1 : decide (0 < x4_1.length) = true := decide_eq_true (by omega)
          clear c21
          have H' := Aside0.mk H
          clear H
          obtain ⟨Ao22, co22, eo22, _⟩ := Kd.Q_slice HO_4.out
          subst eo22
          have p168 : 0 ≤ (0 : Int) := (by omega)
          have q168 : 0 < (x4_1.length : Int) := of_decide_eq_true (by first | (with_reducible assumption) | assumption)
          obtain ⟨ad168, e168, hx168_0⟩ := Kd.at_string (Kd.Q_reads' HO_4.out).2.2 0 p168 q168
          cases e168
          have qi168 : (0 < x4_1.length) = True := eq_true (by omega)
          (try rw [show ((0 : Int)).toNat = 0 from rfl] at hx168_0)
          (try rw [Addr.add_zero'] at hx168_0)
          replace p168 := eq_true p168
          replace q168 := eq_true q168
          go_wp2
          go_meet
          case rel => exact ⟨_, (((rdOf ByteArray.empty x4_1 0).toList == ([101, 110, 100] : List UInt8))), (by first | rfl | (simp; done) | (simp [*]; done)), H', ⟨by have := HK1.out; have := HJ11.out; first | omega | exact Nat.le_refl _⟩, ⟨by (with_reducible repeat (first | apply Kd.Q_alloc | apply Kd.Q_drewN | apply Kd.Q_drew)); exact HO_4.out⟩, ⟨by (with_reducible repeat (first | refine blk_drewN ?_ _ | refine blk_drew ?_ | refine blk_alloc ?_ _)); exact BK159.out⟩, ⟨by repeat (first | (with_reducible first | exact HB.out | apply below_alloc | apply pw_below_drewN | apply below_drew1 | refine below_set ?_ GE159.out) | exact HB.out)⟩⟩
         ·rw [if_neg c21] at H
          exact absurd H (by simp)
        ·rw [if_neg c20] at H
         have c20b0 : ((x4_1.length : Int) == 1) = false := beq_eq_false_iff_ne.mpr c20
         have c20b1 : ((x4_1.length : Int) != 1) = true := bne_iff_ne.mpr c20
         (first | rw [c20b0] | (simp only [i64_w, i32_w]; rw [c20b0]) | skip)
         have H' := Aside0.mk H
         clear H
         obtain ⟨Ao23, co23, eo23, _⟩ := Kd.Q_slice HO_4.out
         subst eo23
         go_wp2
         go_meet
         case rel => exact ⟨_, (false), (by first | rfl | (simp; done) | (simp [*]; done)), H', ⟨by have := HK1.out; have := HJ11.out; first | omega | exact Nat.le_refl _⟩, ⟨by (with_reducible repeat (first | apply Kd.Q_alloc | apply Kd.Q_drewN | apply Kd.Q_drew)); exact HO_4.out⟩, ⟨by (with_reducible repeat (first | refine blk_drewN ?_ _ | refine blk_drew ?_ | refine blk_alloc ?_ _)); exact BK159.out⟩, ⟨by repeat (first | (with_reducible first | exact HB.out | apply below_alloc | apply pw_below_drewN | apply below_drew1 | refine below_set ?_ GE159.out) | exact HB.out)⟩⟩
       case rest =>
        clear HC19
        try clear c1
        try clear p1
        try clear q1
        try clear hx1
        try clear qi1
        try clear c2
        try clear p2
        try clear c6
        try clear c6b0
        try clear p6
        try clear c7
        try clear c7b0
        try clear c8
        try clear c8b0
        try clear c9
        try clear c9b0
        try clear c9b1
        try clear c10
        try clear c13
        try clear c13b0
        try clear c13b1
        try clear c14
        try clear c14b0
        try clear c14b1
        try clear p16
        try clear q16
        try clear hx16
        try clear qi16
        try clear c17
        try clear c20
        try clear c20b0
        try clear c20b1
        try clear c21
        try clear c21b0
        try clear c21b1
        try clear c22
        try clear hcz18_0
        try clear hcz18_1
        try clear hcz18_2
        try clear hfz18_0
        try clear hfz18_1
        try clear hfz18_2
        try clear hx163_0
        try clear hx167_0
        try clear hx168_0
        try clear p1
        try clear p16
        try clear p163
        try clear p167
        try clear p168
        try clear p2
        try clear p6
        try clear q1
        try clear q16
        try clear q163
        try clear q167
        try clear q168
        obtain ⟨kq, x42_18, rfl, HA, HJ18, HO_4, BK159, HB⟩ := hcut
        cases kq with
        | zero => exact absurd HA.out (by simp [bellmanref10_tag.j2])
        | succ kj18 =>
         have H := HA.out
         clear HA
         simp only [bellmanref10_tag.j2] at H
         by_cases c24 : x42_18 = true
         ·subst c24
          have H1 : (some (6, (⟨#[]⟩ : ByteArray), ([] : List ByteArray), true)) = some (r1, r2, r3, r4) := by rw [if_pos rfl] at H; exact H
          clear H
          have H := H1
          clear H1
          simp only [Option.some.injEq, Prod.mk.injEq] at H
          obtain ⟨rfl, rfl, rfl, rfl⟩ := H
          have hcz25_0 : wc.cell? ⟨gb159, 0, none⟩ = some (.int .u8 0) := (blk_cell BK159.out 0).trans rfl
          have hcz25_1 : wc.cell? ⟨gb159, 1, none⟩ = some (.string (⟨#[]⟩ : ByteArray)) := (blk_cell BK159.out 1).trans rfl
          have hcz25_2 : wc.cell? ⟨gb159, 2, none⟩ = some (.slice none 0 0) := (blk_cell BK159.out 2).trans rfl
          have hfz25_0 := blk_frozen BK159.out 0
          have hfz25_1 := blk_frozen BK159.out 1
          have hfz25_2 := blk_frozen BK159.out 2
          go_wp2
          refine bodyPost_ret (results_ct rfl _ _ gb159 40 #[.int .u8 6, .string (⟨#[]⟩ : ByteArray), .slice none 0 0] (0, 0) _ rfl (by (with_reducible repeat (first | refine blk_drewN ?_ _ | refine blk_drew ?_ | refine blk_alloc ?_ _)); refine blk_put (cs := #[.int .u8 6, .string (⟨#[]⟩ : ByteArray), .slice none 0 0]) ?_ 2 _ rfl; (with_reducible repeat (first | refine blk_drewN ?_ _ | refine blk_drew ?_ | refine blk_alloc ?_ _)); refine blk_put (cs := #[.int .u8 6, .string (⟨#[]⟩ : ByteArray), .slice none 0 0]) ?_ 1 _ rfl; (with_reducible repeat (first | refine blk_drewN ?_ _ | refine blk_drew ?_ | refine blk_alloc ?_ _)); refine blk_put (cs := #[.int .u8 0, .string (⟨#[]⟩ : ByteArray), .slice none 0 0]) ?_ 0 _ rfl; (with_reducible repeat (first | refine blk_drewN ?_ _ | refine blk_drew ?_ | refine blk_alloc ?_ _)); exact BK159.out) Tryd.underlying40 rfl (by kernel_rfl)) rfl ?_
          exact ⟨_, by first | rfl | (simp [errW_none, errW_some] <;> rfl) | (simp [*, errW_none, errW_some] <;> rfl), by first | exact Kd.R_nil _ _ _ _ _ | exact Kd.N_nil _ _ _ _ _ | exact Kd.V_nil _ _ _ _ _ | exact Kd.Q_nil _ _ _ _ _ | exact Kd.S_nil _ _ _ _ _, by repeat (first | (with_reducible first | exact HB.out | apply below_alloc | apply pw_below_drewN | apply below_drew1 | refine below_set ?_ GE159.out) | exact HB.out)⟩
         ·replace c24 := Bool.eq_false_iff.mpr c24
          subst c24
          have H1 : (if (x4_1.length : Int) = 2 then (if 0 < (x4_1.length : Int) then (bellmanref10_tag.j3 kj18 x4_1 2 ((rdOf ByteArray.empty x4_1 0).toList == ([105, 102] : List UInt8))) else (none)) else (bellmanref10_tag.j3 kj18 x4_1 2 false)) = some (r1, r2, r3, r4) := by rw [if_neg (show ¬ (false = true) by decide)] at H; exact H
          clear H
          have H := H1
          clear H1
          have HC26 := Aside0.mk H
          clear H
          go_upto_region 13 with (fail)
          go_cut [52] (fun v52 wc => ∃ (kq : Nat) (x52_25 : Bool), v52 = .bool x52_25 ∧ Aside0 (bellmanref10_tag.j3 kq x4_1 2 x52_25 = some (r1, r2, r3, r4)) ∧ Aside0 (kq ≤ kj18) ∧ Aside0 (Kd.Q Kd.string 9 wc w.heap.size (fun _ => True) u4 x4_1) ∧ Aside0 (wc.heap[gb159]? = some (.cells #[.int .u8 0, .string (⟨#[]⟩ : ByteArray), (.slice none 0 0)] 40 (0, 0))) ∧ Aside0 (Below w.heap.size w wc))
          case first =>
           have H := HC26.out
           clear HC26
           by_cases c27 : (x4_1.length : Int) = 2
           ·rw [if_pos c27] at H
            have c27b0 : ((x4_1.length : Int) == 2) = true := beq_iff_eq.mpr c27
            have c27b1 : ((x4_1.length : Int) != 2) = false := bne_eq_false_iff_eq.mpr c27
            clear c27
            (first | rw [c27b0] | (simp only [i64_w, i32_w]; rw [c27b0]) | skip)
            by_cases c28 : 0 < (x4_1.length : Int)
            ·rw [if_pos c28] at H
             have c28b0 : decide (0 < (x4_1.length : Int)) = true := decide_eq_true c28
             have c28b1 : decide (0 < x4_1.length) = true := decide_eq_true (by omega)
             clear c28
             have H' := Aside0.mk H
             clear H
             obtain ⟨Ao29, co29, eo29, _⟩ := Kd.Q_slice HO_4.out
             subst eo29
             have p169 : 0 ≤ (0 : Int) := (by omega)
             have q169 : 0 < (x4_1.length : Int) := of_decide_eq_true (by first | (with_reducible assumption) | assumption)
             obtain ⟨ad169, e169, hx169_0⟩ := Kd.at_string (Kd.Q_reads' HO_4.out).2.2 0 p169 q169
             cases e169
             have qi169 : (0 < x4_1.length) = True := eq_true (by omega)
             (try rw [show ((0 : Int)).toNat = 0 from rfl] at hx169_0)
             (try rw [Addr.add_zero'] at hx169_0)
             replace p169 := eq_true p169
             replace q169 := eq_true q169
             go_wp2
             go_meet
             case rel => exact ⟨_, (((rdOf ByteArray.empty x4_1 0).toList == ([105, 102] : List UInt8))), (by first | rfl | (simp; done) | (simp [*]; done)), H', ⟨by have := HK1.out; have := HJ11.out; have := HJ18.out; first | omega | exact Nat.le_refl _⟩, ⟨by (with_reducible repeat (first | apply Kd.Q_alloc | apply Kd.Q_drewN | apply Kd.Q_drew)); exact HO_4.out⟩, ⟨by (with_reducible repeat (first | refine blk_drewN ?_ _ | refine blk_drew ?_ | refine blk_alloc ?_ _)); exact BK159.out⟩, ⟨by repeat (first | (with_reducible first | exact HB.out | apply below_alloc | apply pw_below_drewN | apply below_drew1 | refine below_set ?_ GE159.out) | exact HB.out)⟩⟩
            ·rw [if_neg c28] at H
             exact absurd H (by simp)
           ·rw [if_neg c27] at H
            have c27b0 : ((x4_1.length : Int) == 2) = false := beq_eq_false_iff_ne.mpr c27
            have c27b1 : ((x4_1.length : Int) != 2) = true := bne_iff_ne.mpr c27
            (first | rw [c27b0] | (simp only [i64_w, i32_w]; rw [c27b0]) | skip)
            have H' := Aside0.mk H
            clear H
            obtain ⟨Ao30, co30, eo30, _⟩ := Kd.Q_slice HO_4.out
            subst eo30
            go_wp2
            go_meet
            case rel => exact ⟨_, (false), (by first | rfl | (simp; done) | (simp [*]; done)), H', ⟨by have := HK1.out; have := HJ11.out; have := HJ18.out; first | omega | exact Nat.le_refl _⟩, ⟨by (with_reducible repeat (first | apply Kd.Q_alloc | apply Kd.Q_drewN | apply Kd.Q_drew)); exact HO_4.out⟩, ⟨by (with_reducible repeat (first | refine blk_drewN ?_ _ | refine blk_drew ?_ | refine blk_alloc ?_ _)); exact BK159.out⟩, ⟨by repeat (first | (with_reducible first | exact HB.out | apply below_alloc | apply pw_below_drewN | apply below_drew1 | refine below_set ?_ GE159.out) | exact HB.out)⟩⟩
          case rest =>
           clear HC26
           try clear c1
           try clear p1
           try clear q1
           try clear hx1
           try clear qi1
           try clear c2
           try clear p2
           try clear c6
           try clear c6b0
           try clear p6
           try clear c7
           try clear c7b0
           try clear c8
           try clear c8b0
           try clear c9
           try clear c9b0
           try clear c9b1
           try clear c10
           try clear c13
           try clear c13b0
           try clear c13b1
           try clear c14
           try clear c14b0
           try clear c14b1
           try clear p16
           try clear q16
           try clear hx16
           try clear qi16
           try clear c17
           try clear c20
           try clear c20b0
           try clear c20b1
           try clear c21
           try clear c21b0
           try clear c21b1
           try clear c22
           try clear c24
           try clear c25
           try clear c27
           try clear c27b0
           try clear c27b1
           try clear c28
           try clear c28b0
           try clear c28b1
           try clear hcz18_0
           try clear hcz18_1
           try clear hcz18_2
           try clear hcz25_0
           try clear hcz25_1
           try clear hcz25_2
           try clear hfz18_0
           try clear hfz18_1
           try clear hfz18_2
           try clear hfz25_0
           try clear hfz25_1
           try clear hfz25_2
           try clear hx163_0
           try clear hx167_0
           try clear hx168_0
           try clear hx169_0
           try clear p1
           try clear p16
           try clear p163
           try clear p167
           try clear p168
           try clear p169
           try clear p2
           try clear p6
           try clear q1
           try clear q16
           try clear q163
           try clear q167
           try clear q168
           try clear q169
           obtain ⟨kq, x52_25, rfl, HA, HJ25, HO_4, BK159, HB⟩ := hcut
           cases kq with
           | zero => exact absurd HA.out (by simp [bellmanref10_tag.j3])
           | succ kj25 =>
            have H := HA.out
            clear HA
            simp only [bellmanref10_tag.j3] at H
            by_cases c31 : x52_25 = true
            ·subst c31
             have H1 : (if 1 ≤ (x4_1.length : Int) then ((some (x4_1.drop (1 : Int).toNat : List ByteArray)).bind fun y170 => (if (y170.length : Int) = 1 then (if 0 < (y170.length : Int) then ((bellmanref10_Path.f kj25 (rdOf ByteArray.empty y170 0)).bind fun bt174 => (some (3, (⟨#[]⟩ : ByteArray), bt174.1, (bt174.2 == 0)))) else (none)) else (some (0, (⟨#[]⟩ : ByteArray), ([] : List ByteArray), false)))) else (none)) = some (r1, r2, r3, r4) := by rw [if_pos rfl] at H; exact H
             clear H
             have H := H1
             clear H1
             by_cases c32 : 1 ≤ (x4_1.length : Int)
             ·rw [if_pos c32] at H
              have c32b0 := eq_true c32
              have c32b1 : decide (1 ≤ (x4_1.length : Int)) = true := decide_eq_true c32
              clear c32
              obtain ⟨y170, hy170⟩ : ∃ y_ : List ByteArray, y_ = (x4_1.drop (1 : Int).toNat) := ⟨_, rfl⟩
              replace H : (if (y170.length : Int) = 1 then (if 0 < (y170.length : Int) then ((bellmanref10_Path.f kj25 (rdOf ByteArray.empty y170 0)).bind fun bt174 => (some (3, (⟨#[]⟩ : ByteArray), bt174.1, (bt174.2 == 0)))) else (none)) else (some (0, (⟨#[]⟩ : ByteArray), ([] : List ByteArray), false))) = some (r1, r2, r3, r4) := by first | (rw [hy170]; with_reducible exact H) | (have H2_ := (Option.bind_some _ _).symm.trans H; rw [hy170]; with_reducible exact H2_) | (have H2_ := (Option.bind_some _ _).symm.trans H; with_reducible exact H2_) | with_reducible exact H | (rw [hy170]; exact H) | exact H
              have Ny170 := Aside0.mk hy170
              clear hy170
              by_cases c33 : (y170.length : Int) = 1
              ·rw [if_pos c33] at H
               have c33b0 : ((y170.length : Int) == 1) = true := beq_iff_eq.mpr c33
               have c33b1 : ((y170.length : Int) != 1) = false := bne_eq_false_iff_eq.mpr c33
               clear c33
               by_cases c34 : 0 < (y170.length : Int)
               ·rw [if_pos c34] at H
                have c34b0 : decide (0 < (y170.length : Int)) = true := decide_eq_true c34
                have c34b1 : decide (0 < y170.length) = true := decide_eq_true (by omega)
                clear c34
                replace H := Option.bind_eq_some_iff.mp H
                obtain ⟨⟨t174, t175⟩, A350, H⟩ := H
                replace H : (some (3, (⟨#[]⟩ : ByteArray), t174, (t175 == 0))) = some (r1, r2, r3, r4) := H
                have A35 := Aside0.mk A350
                clear A350
                simp only [Option.some.injEq, Prod.mk.injEq] at H
                obtain ⟨rfl, rfl, rfl, rfl⟩ := H
                obtain ⟨Ao36, co36, eo36, _⟩ := Kd.Q_slice HO_4.out
                subst eo36
                have q37 : (1 : Int) ≤ ((x4_1.length : Int) : Int) := of_decide_eq_true (by first | (with_reducible assumption) | assumption)
                obtain ⟨i037, hi037, _, hsz37, _⟩ := info_parts info9
                have hcut37 := cut_from (P := Tryd.prog) 26 9 .i64 Tryd.underlying26 hi037 1 hsz37 Ao36 x4_1.length co36 1 (by omega) q37
                have hr37 := Kd.Q_drop (k := (1 : Int).toNat) HO_4.out (by omega)
                obtain ⟨A37, hA37⟩ : ∃ A1, A1 = (if co36 = (1 : Int).toNat then Ao36 else (Ao36 : Option Addr).map (·.add ((1 : Int).toNat * 1))) := ⟨_, rfl⟩
                obtain ⟨c37, hc37⟩ : ∃ c1, c1 = co36 - (1 : Int).toNat := ⟨_, rfl⟩
                have hy37 : y170.length = x4_1.length - (1 : Int).toNat := (by rw [Ny170.out, List.length_drop])
                rw [← Ny170.out] at hr37
                rw [← hy37, ← hA37, ← hc37] at hcut37
                replace hr37 : Kd.Q Kd.string 9 wc w.heap.size (fun _ => True) (.slice A37 y170.length c37) y170 := (by rw [hA37, hc37, hy37]; exact hr37)
                have HE37 : Aside0 ((Value.slice A37 y170.length c37).ownBlock = (.slice Ao36 x4_1.length co36 : Value).ownBlock) := ⟨by rw [hA37]; split <;> (cases (Ao36 : Option Addr) <;> rfl)⟩
                clear hy37 hi037 hsz37 HO_4 hA37 hc37
                have HO172 := Aside0.mk hr37
                clear hr37
                replace q37 := eq_true q37
                have p173 : 0 ≤ (0 : Int) := (by omega)
                have q173 : 0 < (y170.length : Int) := of_decide_eq_true (by first | (with_reducible assumption) | assumption)
                obtain ⟨ad173, e173, hx173_0⟩ := Kd.at_string (Kd.Q_reads' HO172.out).2.2 0 p173 q173
                cases e173
                have qi173 : (0 < y170.length) = True := eq_true (by omega)
                (try rw [show ((0 : Int)).toNat = 0 from rfl] at hx173_0)
                (try rw [Addr.add_zero'] at hx173_0)
                replace p173 := eq_true p173
                replace q173 := eq_true q173
                go_wp2_with (first | ((with_reducible refine gate_callee (f := 11) rfl ?_); refine goesL_ (some 74) rfl rfl Tryd.func11 (by kernel_rfl) rfl #[.string (rdOf ByteArray.empty y170 0)] rfl (by (try simp only [List.map_toArray, List.map_cons, List.map_nil]); first | done | rfl | (simp only [List.length_drop, List.length_take]; rfl)) ?_; (with_reducible refine (bellmanref10_Path.calls kj25 (rdOf ByteArray.empty y170 0) t174 t175 _ A35.out).mono ?_); rintro e w38 ⟨v176, rfl, ho0, hb⟩; refine ⟨_, rfl, ?_⟩; have n0_ := Aside0.mk (Kd.Q_elder' (by (with_reducible repeat (first | apply Kd.Q_alloc | apply Kd.Q_drewN | apply Kd.Q_drew)); exact HO172.out) (Kd.R_base ho0) hb); have n1_ := Aside0.mk (Kd.R_lower (Kd.R_new' ho0 (Kd.Q_lt (by (with_reducible repeat (first | apply Kd.Q_alloc | apply Kd.Q_drewN | apply Kd.Q_drew)); exact HO172.out))) (below_size (by repeat (first | (with_reducible first | exact HB.out | apply below_alloc | apply pw_below_drewN | apply below_drew1 | refine below_set ?_ GE159.out) | exact HB.out)))); have n2_ := Aside0.mk (blk_below (g := gb159) (o := .cells #[.int .u8 0, .string (⟨#[]⟩ : ByteArray), .slice none 0 0] 40 (0, 0)) (by (with_reducible repeat (first | refine blk_drewN ?_ _ | refine blk_drew ?_ | refine blk_alloc ?_ _)); exact BK159.out) hb); have n3_ := Aside0.mk (below_step (by repeat (first | (with_reducible first | exact HB.out | apply below_alloc | apply pw_below_drewN | apply below_drew1 | refine below_set ?_ GE159.out) | exact HB.out)) hb); clear HO172; clear BK159; clear HB; have HO172 := n0_; have HO177 := n1_; have BK159 := n2_; have HB := n3_; clear n0_ n1_ n2_ n3_; (try clear hb); (try clear hb2); (try clear hk); (try clear hi); (try clear ho0); obtain ⟨Ao39, co39, eo39⟩ := Kd.R_slice HO177.out; subst eo39; have hcz40_0 : w38.cell? ⟨gb159, 0, none⟩ = some (.int .u8 0) := (blk_cell BK159.out 0).trans rfl; have hcz40_1 : w38.cell? ⟨gb159, 1, none⟩ = some (.string (⟨#[]⟩ : ByteArray)) := (blk_cell BK159.out 1).trans rfl; have hcz40_2 : w38.cell? ⟨gb159, 2, none⟩ = some (.slice none 0 0) := (blk_cell BK159.out 2).trans rfl; have hfz40_0 := blk_frozen BK159.out 0; have hfz40_1 := blk_frozen BK159.out 1; have hfz40_2 := blk_frozen BK159.out 2))
                refine bodyPost_ret (results_ct rfl _ _ gb159 40 #[.int .u8 3, .string (⟨#[]⟩ : ByteArray), .slice Ao39 t174.length co39] (0, 0) _ rfl (by (with_reducible repeat (first | refine blk_drewN ?_ _ | refine blk_drew ?_ | refine blk_alloc ?_ _)); refine blk_put (cs := #[.int .u8 3, .string (⟨#[]⟩ : ByteArray), .slice none 0 0]) ?_ 2 _ rfl; (with_reducible repeat (first | refine blk_drewN ?_ _ | refine blk_drew ?_ | refine blk_alloc ?_ _)); refine blk_put (cs := #[.int .u8 3, .string (⟨#[]⟩ : ByteArray), .slice none 0 0]) ?_ 1 _ rfl; (with_reducible repeat (first | refine blk_drewN ?_ _ | refine blk_drew ?_ | refine blk_alloc ?_ _)); refine blk_put (cs := #[.int .u8 0, .string (⟨#[]⟩ : ByteArray), .slice none 0 0]) ?_ 0 _ rfl; (with_reducible repeat (first | refine blk_drewN ?_ _ | refine blk_drew ?_ | refine blk_alloc ?_ _)); exact BK159.out) Tryd.underlying40 rfl (by kernel_rfl)) rfl ?_
                exact ⟨_, by first | rfl | (simp [errW_none, errW_some] <;> rfl) | (simp [*, errW_none, errW_some] <;> rfl), by (with_reducible repeat (first | apply Kd.R_alloc | apply Kd.R_drewN | apply Kd.R_drew)); exact Kd.R_mono (Kd.R_far (p := ⟨gb159, 2, none⟩) (Kd.R_far (p := ⟨gb159, 1, none⟩) (Kd.R_far (p := ⟨gb159, 0, none⟩) (Kd.R_types HO177.out BK159.out (by decide)) (fun _ hk => hk.2) (.int .u8 3)) (fun _ hk => hk.2) (.string (⟨#[]⟩ : ByteArray))) (fun _ hk => hk.2) (.slice Ao39 t174.length co39)) (fun _ hk => trivial), by repeat (first | (with_reducible first | exact HB.out | apply below_alloc | apply pw_below_drewN | apply below_drew1 | refine below_set ?_ GE159.out) | exact HB.out)⟩
               ·rw [if_neg c34] at H
                exact absurd H (by simp)
              ·rw [if_neg c33] at H
               have c33b0 : ((y170.length : Int) == 1) = false := beq_eq_false_iff_ne.mpr c33
               have c33b1 : ((y170.length : Int) != 1) = true := bne_iff_ne.mpr c33
               simp only [Option.some.injEq, Prod.mk.injEq] at H
               obtain ⟨rfl, rfl, rfl, rfl⟩ := H
               obtain ⟨Ao41, co41, eo41, _⟩ := Kd.Q_slice HO_4.out
               subst eo41
               have q42 : (1 : Int) ≤ ((x4_1.length : Int) : Int) := of_decide_eq_true (by first | (with_reducible assumption) | assumption)
               obtain ⟨i042, hi042, _, hsz42, _⟩ := info_parts info9
               have hcut42 := cut_from (P := Tryd.prog) 26 9 .i64 Tryd.underlying26 hi042 1 hsz42 Ao41 x4_1.length co41 1 (by omega) q42
               have hr42 := Kd.Q_drop (k := (1 : Int).toNat) HO_4.out (by omega)
               obtain ⟨A42, hA42⟩ : ∃ A1, A1 = (if co41 = (1 : Int).toNat then Ao41 else (Ao41 : Option Addr).map (·.add ((1 : Int).toNat * 1))) := ⟨_, rfl⟩
               obtain ⟨c42, hc42⟩ : ∃ c1, c1 = co41 - (1 : Int).toNat := ⟨_, rfl⟩
               have hy42 : y170.length = x4_1.length - (1 : Int).toNat := (by rw [Ny170.out, List.length_drop])
               rw [← Ny170.out] at hr42
               rw [← hy42, ← hA42, ← hc42] at hcut42
               replace hr42 : Kd.Q Kd.string 9 wc w.heap.size (fun _ => True) (.slice A42 y170.length c42) y170 := (by rw [hA42, hc42, hy42]; exact hr42)
               have HE42 : Aside0 ((Value.slice A42 y170.length c42).ownBlock = (.slice Ao41 x4_1.length co41 : Value).ownBlock) := ⟨by rw [hA42]; split <;> (cases (Ao41 : Option Addr) <;> rfl)⟩
               clear hy42 hi042 hsz42 HO_4 hA42 hc42
               have HO172 := Aside0.mk hr42
               clear hr42
               replace q42 := eq_true q42
               have hcz43_0 : wc.cell? ⟨gb159, 0, none⟩ = some (.int .u8 0) := (blk_cell BK159.out 0).trans rfl
               have hcz43_1 : wc.cell? ⟨gb159, 1, none⟩ = some (.string (⟨#[]⟩ : ByteArray)) := (blk_cell BK159.out 1).trans rfl
               have hcz43_2 : wc.cell? ⟨gb159, 2, none⟩ = some (.slice none 0 0) := (blk_cell BK159.out 2).trans rfl
               have hfz43_0 := blk_frozen BK159.out 0
               have hfz43_1 := blk_frozen BK159.out 1
               have hfz43_2 := blk_frozen BK159.out 2
               go_wp2
               refine bodyPost_ret (results_ct rfl _ _ gb159 40 #[.int .u8 0, .string (⟨#[]⟩ : ByteArray), .slice none 0 0] (0, 0) _ rfl (by (with_reducible repeat (first | refine blk_drewN ?_ _ | refine blk_drew ?_ | refine blk_alloc ?_ _)); refine blk_put (cs := #[.int .u8 0, .string (⟨#[]⟩ : ByteArray), .slice none 0 0]) ?_ 2 _ rfl; (with_reducible repeat (first | refine blk_drewN ?_ _ | refine blk_drew ?_ | refine blk_alloc ?_ _)); refine blk_put (cs := #[.int .u8 0, .string (⟨#[]⟩ : ByteArray), .slice none 0 0]) ?_ 1 _ rfl; (with_reducible repeat (first | refine blk_drewN ?_ _ | refine blk_drew ?_ | refine blk_alloc ?_ _)); refine blk_put (cs := #[.int .u8 0, .string (⟨#[]⟩ : ByteArray), .slice none 0 0]) ?_ 0 _ rfl; (with_reducible repeat (first | refine blk_drewN ?_ _ | refine blk_drew ?_ | refine blk_alloc ?_ _)); exact BK159.out) Tryd.underlying40 rfl (by kernel_rfl)) rfl ?_
               exact ⟨_, by first | rfl | (simp [errW_none, errW_some] <;> rfl) | (simp [*, errW_none, errW_some] <;> rfl), by first | exact Kd.R_nil _ _ _ _ _ | exact Kd.N_nil _ _ _ _ _ | exact Kd.V_nil _ _ _ _ _ | exact Kd.Q_nil _ _ _ _ _ | exact Kd.S_nil _ _ _ _ _, by repeat (first | (with_reducible first | exact HB.out | apply below_alloc | apply pw_below_drewN | apply below_drew1 | refine below_set ?_ GE159.out) | exact HB.out)⟩
             ·rw [if_neg c32] at H
              exact absurd H (by simp)
            ·replace c31 := Bool.eq_false_iff.mpr c31
             subst c31
             have H1 : (if (x4_1.length : Int) = 2 then (if 0 < (x4_1.length : Int) then (bellmanref10_tag.j4 kj25 x4_1 2 ((rdOf ByteArray.empty x4_1 0).toList == ([101, 97, 99, 104] : List UInt8))) else (none)) else (bellmanref10_tag.j4 kj25 x4_1 2 false)) = some (r1, r2, r3, r4) := by rw [if_neg (show ¬ (false = true) by decide)] at H; exact H
             clear H
             have H := H1
             clear H1
             have HC44 := Aside0.mk H
             clear H
             go_upto_region 16 with (fail)
             go_cut [63] (fun v63 wc => ∃ (kq : Nat) (x63_43 : Bool), v63 = .bool x63_43 ∧ Aside0 (bellmanref10_tag.j4 kq x4_1 2 x63_43 = some (r1, r2, r3, r4)) ∧ Aside0 (kq ≤ kj25) ∧ Aside0 (Kd.Q Kd.string 9 wc w.heap.size (fun _ => True) u4 x4_1) ∧ Aside0 (wc.heap[gb159]? = some (.cells #[.int .u8 0, .string (⟨#[]⟩ : ByteArray), (.slice none 0 0)] 40 (0, 0))) ∧ Aside0 (Below w.heap.size w wc))
             case first =>
              have H := HC44.out
              clear HC44
              by_cases c45 : (x4_1.length : Int) = 2
              ·rw [if_pos c45] at H
               have c45b0 : ((x4_1.length : Int) == 2) = true := beq_iff_eq.mpr c45
               have c45b1 : ((x4_1.length : Int) != 2) = false := bne_eq_false_iff_eq.mpr c45
               clear c45
               (first | rw [c45b0] | (simp only [i64_w, i32_w]; rw [c45b0]) | skip)
               by_cases c46 : 0 < (x4_1.length : Int)
               ·rw [if_pos c46] at H
                have c46b0 : decide (0 < (x4_1.length : Int)) = true := decide_eq_true c46
                have c46b1 : decide (0 < x4_1.length) = true := decide_eq_true (by omega)
                clear c46
                have H' := Aside0.mk H
                clear H
                obtain ⟨Ao47, co47, eo47, _⟩ := Kd.Q_slice HO_4.out
                subst eo47
                have p178 : 0 ≤ (0 : Int) := (by omega)
                have q178 : 0 < (x4_1.length : Int) := of_decide_eq_true (by first | (with_reducible assumption) | assumption)
                obtain ⟨ad178, e178, hx178_0⟩ := Kd.at_string (Kd.Q_reads' HO_4.out).2.2 0 p178 q178
                cases e178
                have qi178 : (0 < x4_1.length) = True := eq_true (by omega)
                (try rw [show ((0 : Int)).toNat = 0 from rfl] at hx178_0)
                (try rw [Addr.add_zero'] at hx178_0)
                replace p178 := eq_true p178
                replace q178 := eq_true q178
                go_wp2
                go_meet
                case rel => exact ⟨_, (((rdOf ByteArray.empty x4_1 0).toList == ([101, 97, 99, 104] : List UInt8))), (by first | rfl | (simp; done) | (simp [*]; done)), H', ⟨by have := HK1.out; have := HJ11.out; have := HJ18.out; have := HJ25.out; first | omega | exact Nat.le_refl _⟩, ⟨by (with_reducible repeat (first | apply Kd.Q_alloc | apply Kd.Q_drewN | apply Kd.Q_drew)); exact HO_4.out⟩, ⟨by (with_reducible repeat (first | refine blk_drewN ?_ _ | refine blk_drew ?_ | refine blk_alloc ?_ _)); exact BK159.out⟩, ⟨by repeat (first | (with_reducible first | exact HB.out | apply below_alloc | apply pw_below_drewN | apply below_drew1 | refine below_set ?_ GE159.out) | exact HB.out)⟩⟩
               ·rw [if_neg c46] at H
                exact absurd H (by simp)
              ·rw [if_neg c45] at H
               have c45b0 : ((x4_1.length : Int) == 2) = false := beq_eq_false_iff_ne.mpr c45
               have c45b1 : ((x4_1.length : Int) != 2) = true := bne_iff_ne.mpr c45
               (first | rw [c45b0] | (simp only [i64_w, i32_w]; rw [c45b0]) | skip)
               have H' := Aside0.mk H
               clear H
               obtain ⟨Ao48, co48, eo48, _⟩ := Kd.Q_slice HO_4.out
               subst eo48
               go_wp2
               go_meet
               case rel => exact ⟨_, (false), (by first | rfl | (simp; done) | (simp [*]; done)), H', ⟨by have := HK1.out; have := HJ11.out; have := HJ18.out; have := HJ25.out; first | omega | exact Nat.le_refl _⟩, ⟨by (with_reducible repeat (first | apply Kd.Q_alloc | apply Kd.Q_drewN | apply Kd.Q_drew)); exact HO_4.out⟩, ⟨by (with_reducible repeat (first | refine blk_drewN ?_ _ | refine blk_drew ?_ | refine blk_alloc ?_ _)); exact BK159.out⟩, ⟨by repeat (first | (with_reducible first | exact HB.out | apply below_alloc | apply pw_below_drewN | apply below_drew1 | refine below_set ?_ GE159.out) | exact HB.out)⟩⟩
             case rest =>
              clear HC44
              try clear c1
              try clear p1
              try clear q1
              try clear hx1
              try clear qi1
              try clear c2
              try clear p2
              try clear c3
              try clear q3
              try clear c4
              try clear q4
              try clear c6
              try clear c6b0
              try clear p6
              try clear c7
              try clear c7b0
              try clear c8
              try clear c8b0
              try clear c9
              try clear c9b0
              try clear c9b1
              try clear c10
              try clear c11
              try clear c13
              try clear c13b0
              try clear c13b1
              try clear c14
              try clear c14b0
              try clear c14b1
              try clear p16
              try clear q16
              try clear hx16
              try clear qi16
              try clear c17
              try clear p17
              try clear q17
              try clear hx17
              try clear qi17
              try clear c20
              try clear c20b0
              try clear c20b1
              try clear c21
              try clear c21b0
              try clear c21b1
              try clear c22
              try clear c24
              try clear c25
              try clear c27
              try clear c27b0
              try clear c27b1
              try clear c28
              try clear c28b0
              try clear c28b1
              try clear c31
              try clear c32
              try clear c32b0
              try clear c32b1
              try clear c33
              try clear c33b0
              try clear c33b1
              try clear c34
              try clear c34b0
              try clear c34b1
              try clear c37
              try clear q37
              try clear c42
              try clear q42
              try clear c45
              try clear c45b0
              try clear c45b1
              try clear c46
              try clear c46b0
              try clear c46b1
              try clear hcz18_0
              try clear hcz18_1
              try clear hcz18_2
              try clear hcz25_0
              try clear hcz25_1
              try clear hcz25_2
              try clear hcz40_0
              try clear hcz40_1
              try clear hcz40_2
              try clear hcz43_0
              try clear hcz43_1
              try clear hcz43_2
              try clear hfz18_0
              try clear hfz18_1
              try clear hfz18_2
              try clear hfz25_0
              try clear hfz25_1
              try clear hfz25_2
              try clear hfz40_0
              try clear hfz40_1
              try clear hfz40_2
              try clear hfz43_0
              try clear hfz43_1
              try clear hfz43_2
              try clear hx163_0
              try clear hx167_0
              try clear hx168_0
              try clear hx169_0
              try clear hx173_0
              try clear hx178_0
              try clear p1
              try clear p16
              try clear p163
              try clear p167
              try clear p168
              try clear p169
              try clear p173
              try clear p178
              try clear p2
              try clear p6
              try clear q1
              try clear q16
              try clear q163
              try clear q167
              try clear q168
              try clear q169
              try clear q173
              try clear q178
              try clear q37
              try clear q42
              obtain ⟨kq, x63_43, rfl, HA, HJ43, HO_4, BK159, HB⟩ := hcut
              cases kq with
              | zero => exact absurd HA.out (by simp [bellmanref10_tag.j4])
              | succ kj43 =>
               have H := HA.out
               clear HA
               simp only [bellmanref10_tag.j4] at H
               by_cases c49 : x63_43 = true
               ·subst c49
                have H1 : (if 1 ≤ (x4_1.length : Int) then ((some (x4_1.drop (1 : Int).toNat : List ByteArray)).bind fun y179 => (if (y179.length : Int) = 1 then (if 0 < (y179.length : Int) then ((bellmanref10_Path.f kj43 (rdOf ByteArray.empty y179 0)).bind fun bt183 => (some (5, (⟨#[]⟩ : ByteArray), bt183.1, (bt183.2 == 0)))) else (none)) else (some (0, (⟨#[]⟩ : ByteArray), ([] : List ByteArray), false)))) else (none)) = some (r1, r2, r3, r4) := by rw [if_pos rfl] at H; exact H
                clear H
                have H := H1
                clear H1
                by_cases c50 : 1 ≤ (x4_1.length : Int)
                ·rw [if_pos c50] at H
                 have c50b0 := eq_true c50
                 have c50b1 : decide (1 ≤ (x4_1.length : Int)) = true := decide_eq_true c50
                 clear c50
                 obtain ⟨y179, hy179⟩ : ∃ y_ : List ByteArray, y_ = (x4_1.drop (1 : Int).toNat) := ⟨_, rfl⟩
                 replace H : (if (y179.length : Int) = 1 then (if 0 < (y179.length : Int) then ((bellmanref10_Path.f kj43 (rdOf ByteArray.empty y179 0)).bind fun bt183 => (some (5, (⟨#[]⟩ : ByteArray), bt183.1, (bt183.2 == 0)))) else (none)) else (some (0, (⟨#[]⟩ : ByteArray), ([] : List ByteArray), false))) = some (r1, r2, r3, r4) := by first | (rw [hy179]; with_reducible exact H) | (have H2_ := (Option.bind_some _ _).symm.trans H; rw [hy179]; with_reducible exact H2_) | (have H2_ := (Option.bind_some _ _).symm.trans H; with_reducible exact H2_) | with_reducible exact H | (rw [hy179]; exact H) | exact H
                 have Ny179 := Aside0.mk hy179
                 clear hy179
                 by_cases c51 : (y179.length : Int) = 1
                 ·rw [if_pos c51] at H
                  have c51b0 : ((y179.length : Int) == 1) = true := beq_iff_eq.mpr c51
                  have c51b1 : ((y179.length : Int) != 1) = false := bne_eq_false_iff_eq.mpr c51
                  clear c51
                  by_cases c52 : 0 < (y179.length : Int)
                  ·rw [if_pos c52] at H
                   have c52b0 : decide (0 < (y179.length : Int)) = true := decide_eq_true c52
                   have c52b1 : decide (0 < y179.length) = true := decide_eq_true (by omega)
                   clear c52
                   replace H := Option.bind_eq_some_iff.mp H
                   obtain ⟨⟨t183, t184⟩, A530, H⟩ := H
                   replace H : (some (5, (⟨#[]⟩ : ByteArray), t183, (t184 == 0))) = some (r1, r2, r3, r4) := H
                   have A53 := Aside0.mk A530
                   clear A530
                   simp only [Option.some.injEq, Prod.mk.injEq] at H
                   obtain ⟨rfl, rfl, rfl, rfl⟩ := H
                   obtain ⟨Ao54, co54, eo54, _⟩ := Kd.Q_slice HO_4.out
                   subst eo54
                   have q55 : (1 : Int) ≤ ((x4_1.length : Int) : Int) := of_decide_eq_true (by first | (with_reducible assumption) | assumption)
                   obtain ⟨i055, hi055, _, hsz55, _⟩ := info_parts info9
                   have hcut55 := cut_from (P := Tryd.prog) 26 9 .i64 Tryd.underlying26 hi055 1 hsz55 Ao54 x4_1.length co54 1 (by omega) q55
                   have hr55 := Kd.Q_drop (k := (1 : Int).toNat) HO_4.out (by omega)
                   obtain ⟨A55, hA55⟩ : ∃ A1, A1 = (if co54 = (1 : Int).toNat then Ao54 else (Ao54 : Option Addr).map (·.add ((1 : Int).toNat * 1))) := ⟨_, rfl⟩
                   obtain ⟨c55, hc55⟩ : ∃ c1, c1 = co54 - (1 : Int).toNat := ⟨_, rfl⟩
                   have hy55 : y179.length = x4_1.length - (1 : Int).toNat := (by rw [Ny179.out, List.length_drop])
                   rw [← Ny179.out] at hr55
                   rw [← hy55, ← hA55, ← hc55] at hcut55
                   replace hr55 : Kd.Q Kd.string 9 wc w.heap.size (fun _ => True) (.slice A55 y179.length c55) y179 := (by rw [hA55, hc55, hy55]; exact hr55)
                   have HE55 : Aside0 ((Value.slice A55 y179.length c55).ownBlock = (.slice Ao54 x4_1.length co54 : Value).ownBlock) := ⟨by rw [hA55]; split <;> (cases (Ao54 : Option Addr) <;> rfl)⟩
                   clear hy55 hi055 hsz55 HO_4 hA55 hc55
                   have HO181 := Aside0.mk hr55
                   clear hr55
                   replace q55 := eq_true q55
                   have p182 : 0 ≤ (0 : Int) := (by omega)
                   have q182 : 0 < (y179.length : Int) := of_decide_eq_true (by first | (with_reducible assumption) | assumption)
                   obtain ⟨ad182, e182, hx182_0⟩ := Kd.at_string (Kd.Q_reads' HO181.out).2.2 0 p182 q182
                   cases e182
                   have qi182 : (0 < y179.length) = True := eq_true (by omega)
                   (try rw [show ((0 : Int)).toNat = 0 from rfl] at hx182_0)
                   (try rw [Addr.add_zero'] at hx182_0)
                   replace p182 := eq_true p182
                   replace q182 := eq_true q182
                   go_wp2_with (first | ((with_reducible refine gate_callee (f := 11) rfl ?_); refine goesL_ (some 74) rfl rfl Tryd.func11 (by kernel_rfl) rfl #[.string (rdOf ByteArray.empty y179 0)] rfl (by (try simp only [List.map_toArray, List.map_cons, List.map_nil]); first | done | rfl | (simp only [List.length_drop, List.length_take]; rfl)) ?_; (with_reducible refine (bellmanref10_Path.calls kj43 (rdOf ByteArray.empty y179 0) t183 t184 _ A53.out).mono ?_); rintro e w56 ⟨v185, rfl, ho0, hb⟩; refine ⟨_, rfl, ?_⟩; have n0_ := Aside0.mk (Kd.Q_elder' (by (with_reducible repeat (first | apply Kd.Q_alloc | apply Kd.Q_drewN | apply Kd.Q_drew)); exact HO181.out) (Kd.R_base ho0) hb); have n1_ := Aside0.mk (Kd.R_lower (Kd.R_new' ho0 (Kd.Q_lt (by (with_reducible repeat (first | apply Kd.Q_alloc | apply Kd.Q_drewN | apply Kd.Q_drew)); exact HO181.out))) (below_size (by repeat (first | (with_reducible first | exact HB.out | apply below_alloc | apply pw_below_drewN | apply below_drew1 | refine below_set ?_ GE159.out) | exact HB.out)))); have n2_ := Aside0.mk (blk_below (g := gb159) (o := .cells #[.int .u8 0, .string (⟨#[]⟩ : ByteArray), .slice none 0 0] 40 (0, 0)) (by (with_reducible repeat (first | refine blk_drewN ?_ _ | refine blk_drew ?_ | refine blk_alloc ?_ _)); exact BK159.out) hb); have n3_ := Aside0.mk (below_step (by repeat (first | (with_reducible first | exact HB.out | apply below_alloc | apply pw_below_drewN | apply below_drew1 | refine below_set ?_ GE159.out) | exact HB.out)) hb); clear HO181; clear BK159; clear HB; have HO181 := n0_; have HO186 := n1_; have BK159 := n2_; have HB := n3_; clear n0_ n1_ n2_ n3_; (try clear hb); (try clear hb2); (try clear hk); (try clear hi); (try clear ho0); obtain ⟨Ao57, co57, eo57⟩ := Kd.R_slice HO186.out; subst eo57; have hcz58_0 : w56.cell? ⟨gb159, 0, none⟩ = some (.int .u8 0) := (blk_cell BK159.out 0).trans rfl; have hcz58_1 : w56.cell? ⟨gb159, 1, none⟩ = some (.string (⟨#[]⟩ : ByteArray)) := (blk_cell BK159.out 1).trans rfl; have hcz58_2 : w56.cell? ⟨gb159, 2, none⟩ = some (.slice none 0 0) := (blk_cell BK159.out 2).trans rfl; have hfz58_0 := blk_frozen BK159.out 0; have hfz58_1 := blk_frozen BK159.out 1; have hfz58_2 := blk_frozen BK159.out 2))
                   refine bodyPost_ret (results_ct rfl _ _ gb159 40 #[.int .u8 5, .string (⟨#[]⟩ : ByteArray), .slice Ao57 t183.length co57] (0, 0) _ rfl (by (with_reducible repeat (first | refine blk_drewN ?_ _ | refine blk_drew ?_ | refine blk_alloc ?_ _)); refine blk_put (cs := #[.int .u8 5, .string (⟨#[]⟩ : ByteArray), .slice none 0 0]) ?_ 2 _ rfl; (with_reducible repeat (first | refine blk_drewN ?_ _ | refine blk_drew ?_ | refine blk_alloc ?_ _)); refine blk_put (cs := #[.int .u8 5, .string (⟨#[]⟩ : ByteArray), .slice none 0 0]) ?_ 1 _ rfl; (with_reducible repeat (first | refine blk_drewN ?_ _ | refine blk_drew ?_ | refine blk_alloc ?_ _)); refine blk_put (cs := #[.int .u8 0, .string (⟨#[]⟩ : ByteArray), .slice none 0 0]) ?_ 0 _ rfl; (with_reducible repeat (first | refine blk_drewN ?_ _ | refine blk_drew ?_ | refine blk_alloc ?_ _)); exact BK159.out) Tryd.underlying40 rfl (by kernel_rfl)) rfl ?_
                   exact ⟨_, by first | rfl | (simp [errW_none, errW_some] <;> rfl) | (simp [*, errW_none, errW_some] <;> rfl), by (with_reducible repeat (first | apply Kd.R_alloc | apply Kd.R_drewN | apply Kd.R_drew)); exact Kd.R_mono (Kd.R_far (p := ⟨gb159, 2, none⟩) (Kd.R_far (p := ⟨gb159, 1, none⟩) (Kd.R_far (p := ⟨gb159, 0, none⟩) (Kd.R_types HO186.out BK159.out (by decide)) (fun _ hk => hk.2) (.int .u8 5)) (fun _ hk => hk.2) (.string (⟨#[]⟩ : ByteArray))) (fun _ hk => hk.2) (.slice Ao57 t183.length co57)) (fun _ hk => trivial), by repeat (first | (with_reducible first | exact HB.out | apply below_alloc | apply pw_below_drewN | apply below_drew1 | refine below_set ?_ GE159.out) | exact HB.out)⟩
                  ·rw [if_neg c52] at H
                   exact absurd H (by simp)
                 ·rw [if_neg c51] at H
                  have c51b0 : ((y179.length : Int) == 1) = false := beq_eq_false_iff_ne.mpr c51
                  have c51b1 : ((y179.length : Int) != 1) = true := bne_iff_ne.mpr c51
                  simp only [Option.some.injEq, Prod.mk.injEq] at H
                  obtain ⟨rfl, rfl, rfl, rfl⟩ := H
                  obtain ⟨Ao59, co59, eo59, _⟩ := Kd.Q_slice HO_4.out
                  subst eo59
                  have q60 : (1 : Int) ≤ ((x4_1.length : Int) : Int) := of_decide_eq_true (by first | (with_reducible assumption) | assumption)
                  obtain ⟨i060, hi060, _, hsz60, _⟩ := info_parts info9
                  have hcut60 := cut_from (P := Tryd.prog) 26 9 .i64 Tryd.underlying26 hi060 1 hsz60 Ao59 x4_1.length co59 1 (by omega) q60
                  have hr60 := Kd.Q_drop (k := (1 : Int).toNat) HO_4.out (by omega)
                  obtain ⟨A60, hA60⟩ : ∃ A1, A1 = (if co59 = (1 : Int).toNat then Ao59 else (Ao59 : Option Addr).map (·.add ((1 : Int).toNat * 1))) := ⟨_, rfl⟩
                  obtain ⟨c60, hc60⟩ : ∃ c1, c1 = co59 - (1 : Int).toNat := ⟨_, rfl⟩
                  have hy60 : y179.length = x4_1.length - (1 : Int).toNat := (by rw [Ny179.out, List.length_drop])
                  rw [← Ny179.out] at hr60
                  rw [← hy60, ← hA60, ← hc60] at hcut60
                  replace hr60 : Kd.Q Kd.string 9 wc w.heap.size (fun _ => True) (.slice A60 y179.length c60) y179 := (by rw [hA60, hc60, hy60]; exact hr60)
                  have HE60 : Aside0 ((Value.slice A60 y179.length c60).ownBlock = (.slice Ao59 x4_1.length co59 : Value).ownBlock) := ⟨by rw [hA60]; split <;> (cases (Ao59 : Option Addr) <;> rfl)⟩
                  clear hy60 hi060 hsz60 HO_4 hA60 hc60
                  have HO181 := Aside0.mk hr60
                  clear hr60
                  replace q60 := eq_true q60
                  have hcz61_0 : wc.cell? ⟨gb159, 0, none⟩ = some (.int .u8 0) := (blk_cell BK159.out 0).trans rfl
                  have hcz61_1 : wc.cell? ⟨gb159, 1, none⟩ = some (.string (⟨#[]⟩ : ByteArray)) := (blk_cell BK159.out 1).trans rfl
                  have hcz61_2 : wc.cell? ⟨gb159, 2, none⟩ = some (.slice none 0 0) := (blk_cell BK159.out 2).trans rfl
                  have hfz61_0 := blk_frozen BK159.out 0
                  have hfz61_1 := blk_frozen BK159.out 1
                  have hfz61_2 := blk_frozen BK159.out 2
                  go_wp2
                  refine bodyPost_ret (results_ct rfl _ _ gb159 40 #[.int .u8 0, .string (⟨#[]⟩ : ByteArray), .slice none 0 0] (0, 0) _ rfl (by (with_reducible repeat (first | refine blk_drewN ?_ _ | refine blk_drew ?_ | refine blk_alloc ?_ _)); refine blk_put (cs := #[.int .u8 0, .string (⟨#[]⟩ : ByteArray), .slice none 0 0]) ?_ 2 _ rfl; (with_reducible repeat (first | refine blk_drewN ?_ _ | refine blk_drew ?_ | refine blk_alloc ?_ _)); refine blk_put (cs := #[.int .u8 0, .string (⟨#[]⟩ : ByteArray), .slice none 0 0]) ?_ 1 _ rfl; (with_reducible repeat (first | refine blk_drewN ?_ _ | refine blk_drew ?_ | refine blk_alloc ?_ _)); refine blk_put (cs := #[.int .u8 0, .string (⟨#[]⟩ : ByteArray), .slice none 0 0]) ?_ 0 _ rfl; (with_reducible repeat (first | refine blk_drewN ?_ _ | refine blk_drew ?_ | refine blk_alloc ?_ _)); exact BK159.out) Tryd.underlying40 rfl (by kernel_rfl)) rfl ?_
                  exact ⟨_, by first | rfl | (simp [errW_none, errW_some] <;> rfl) | (simp [*, errW_none, errW_some] <;> rfl), by first | exact Kd.R_nil _ _ _ _ _ | exact Kd.N_nil _ _ _ _ _ | exact Kd.V_nil _ _ _ _ _ | exact Kd.Q_nil _ _ _ _ _ | exact Kd.S_nil _ _ _ _ _, by repeat (first | (with_reducible first | exact HB.out | apply below_alloc | apply pw_below_drewN | apply below_drew1 | refine below_set ?_ GE159.out) | exact HB.out)⟩
                ·rw [if_neg c50] at H
                 exact absurd H (by simp)
               ·replace c49 := Bool.eq_false_iff.mpr c49
                subst c49
                have H1 : (if (x4_1.length : Int) = 1 then (if 0 < (x4_1.length : Int) then ((bellmanref10_Path.f kj43 (rdOf ByteArray.empty x4_1 0)).bind fun bt188 => (some (2, (⟨#[]⟩ : ByteArray), bt188.1, (bt188.2 == 0)))) else (none)) else (some (0, (⟨#[]⟩ : ByteArray), ([] : List ByteArray), false))) = some (r1, r2, r3, r4) := by rw [if_neg (show ¬ (false = true) by decide)] at H; exact H
                clear H
                have H := H1
                clear H1
                by_cases c62 : (x4_1.length : Int) = 1
                ·rw [if_pos c62] at H
                 have c62b0 : ((x4_1.length : Int) == 1) = true := beq_iff_eq.mpr c62
                 have c62b1 : ((x4_1.length : Int) != 1) = false := bne_eq_false_iff_eq.mpr c62
                 clear c62
                 by_cases c63 : 0 < (x4_1.length : Int)
                 ·rw [if_pos c63] at H
                  have c63b0 : decide (0 < (x4_1.length : Int)) = true := decide_eq_true c63
                  have c63b1 : decide (0 < x4_1.length) = true := decide_eq_true (by omega)
                  clear c63
                  replace H := Option.bind_eq_some_iff.mp H
                  obtain ⟨⟨t188, t189⟩, A640, H⟩ := H
                  replace H : (some (2, (⟨#[]⟩ : ByteArray), t188, (t189 == 0))) = some (r1, r2, r3, r4) := H
                  have A64 := Aside0.mk A640
                  clear A640
                  simp only [Option.some.injEq, Prod.mk.injEq] at H
                  obtain ⟨rfl, rfl, rfl, rfl⟩ := H
                  obtain ⟨Ao65, co65, eo65, _⟩ := Kd.Q_slice HO_4.out
                  subst eo65
                  have p187 : 0 ≤ (0 : Int) := (by omega)
                  have q187 : 0 < (x4_1.length : Int) := of_decide_eq_true (by first | (with_reducible assumption) | assumption)
                  obtain ⟨ad187, e187, hx187_0⟩ := Kd.at_string (Kd.Q_reads' HO_4.out).2.2 0 p187 q187
                  cases e187
                  have qi187 : (0 < x4_1.length) = True := eq_true (by omega)
                  (try rw [show ((0 : Int)).toNat = 0 from rfl] at hx187_0)
                  (try rw [Addr.add_zero'] at hx187_0)
                  replace p187 := eq_true p187
                  replace q187 := eq_true q187
                  go_wp2_with (first | ((with_reducible refine gate_callee (f := 11) rfl ?_); refine goesL_ (some 74) rfl rfl Tryd.func11 (by kernel_rfl) rfl #[.string (rdOf ByteArray.empty x4_1 0)] rfl (by (try simp only [List.map_toArray, List.map_cons, List.map_nil]); first | done | rfl | (simp only [List.length_drop, List.length_take]; rfl)) ?_; (with_reducible refine (bellmanref10_Path.calls kj43 (rdOf ByteArray.empty x4_1 0) t188 t189 _ A64.out).mono ?_); rintro e w66 ⟨v190, rfl, ho0, hb⟩; refine ⟨_, rfl, ?_⟩; have n0_ := Aside0.mk (Kd.Q_elder' (by (with_reducible repeat (first | apply Kd.Q_alloc | apply Kd.Q_drewN | apply Kd.Q_drew)); exact HO_4.out) (Kd.R_base ho0) hb); have n1_ := Aside0.mk (Kd.R_lower (Kd.R_new' ho0 (Kd.Q_lt (by (with_reducible repeat (first | apply Kd.Q_alloc | apply Kd.Q_drewN | apply Kd.Q_drew)); exact HO_4.out))) (below_size (by repeat (first | (with_reducible first | exact HB.out | apply below_alloc | apply pw_below_drewN | apply below_drew1 | refine below_set ?_ GE159.out) | exact HB.out)))); have n2_ := Aside0.mk (blk_below (g := gb159) (o := .cells #[.int .u8 0, .string (⟨#[]⟩ : ByteArray), .slice none 0 0] 40 (0, 0)) (by (with_reducible repeat (first | refine blk_drewN ?_ _ | refine blk_drew ?_ | refine blk_alloc ?_ _)); exact BK159.out) hb); have n3_ := Aside0.mk (below_step (by repeat (first | (with_reducible first | exact HB.out | apply below_alloc | apply pw_below_drewN | apply below_drew1 | refine below_set ?_ GE159.out) | exact HB.out)) hb); clear HO_4; clear BK159; clear HB; have HO_4 := n0_; have HO191 := n1_; have BK159 := n2_; have HB := n3_; clear n0_ n1_ n2_ n3_; (try clear hb); (try clear hb2); (try clear hk); (try clear hi); (try clear ho0); obtain ⟨Ao67, co67, eo67⟩ := Kd.R_slice HO191.out; subst eo67; have hcz68_0 : w66.cell? ⟨gb159, 0, none⟩ = some (.int .u8 0) := (blk_cell BK159.out 0).trans rfl; have hcz68_1 : w66.cell? ⟨gb159, 1, none⟩ = some (.string (⟨#[]⟩ : ByteArray)) := (blk_cell BK159.out 1).trans rfl; have hcz68_2 : w66.cell? ⟨gb159, 2, none⟩ = some (.slice none 0 0) := (blk_cell BK159.out 2).trans rfl; have hfz68_0 := blk_frozen BK159.out 0; have hfz68_1 := blk_frozen BK159.out 1; have hfz68_2 := blk_frozen BK159.out 2))
                  refine bodyPost_ret (results_ct rfl _ _ gb159 40 #[.int .u8 2, .string (⟨#[]⟩ : ByteArray), .slice Ao67 t188.length co67] (0, 0) _ rfl (by (with_reducible repeat (first | refine blk_drewN ?_ _ | refine blk_drew ?_ | refine blk_alloc ?_ _)); refine blk_put (cs := #[.int .u8 2, .string (⟨#[]⟩ : ByteArray), .slice none 0 0]) ?_ 2 _ rfl; (with_reducible repeat (first | refine blk_drewN ?_ _ | refine blk_drew ?_ | refine blk_alloc ?_ _)); refine blk_put (cs := #[.int .u8 2, .string (⟨#[]⟩ : ByteArray), .slice none 0 0]) ?_ 1 _ rfl; (with_reducible repeat (first | refine blk_drewN ?_ _ | refine blk_drew ?_ | refine blk_alloc ?_ _)); refine blk_put (cs := #[.int .u8 0, .string (⟨#[]⟩ : ByteArray), .slice none 0 0]) ?_ 0 _ rfl; (with_reducible repeat (first | refine blk_drewN ?_ _ | refine blk_drew ?_ | refine blk_alloc ?_ _)); exact BK159.out) Tryd.underlying40 rfl (by kernel_rfl)) rfl ?_
                  exact ⟨_, by first | rfl | (simp [errW_none, errW_some] <;> rfl) | (simp [*, errW_none, errW_some] <;> rfl), by (with_reducible repeat (first | apply Kd.R_alloc | apply Kd.R_drewN | apply Kd.R_drew)); exact Kd.R_mono (Kd.R_far (p := ⟨gb159, 2, none⟩) (Kd.R_far (p := ⟨gb159, 1, none⟩) (Kd.R_far (p := ⟨gb159, 0, none⟩) (Kd.R_types HO191.out BK159.out (by decide)) (fun _ hk => hk.2) (.int .u8 2)) (fun _ hk => hk.2) (.string (⟨#[]⟩ : ByteArray))) (fun _ hk => hk.2) (.slice Ao67 t188.length co67)) (fun _ hk => trivial), by repeat (first | (with_reducible first | exact HB.out | apply below_alloc | apply pw_below_drewN | apply below_drew1 | refine below_set ?_ GE159.out) | exact HB.out)⟩
                 ·rw [if_neg c63] at H
                  exact absurd H (by simp)
                ·rw [if_neg c62] at H
                 have c62b0 : ((x4_1.length : Int) == 1) = false := beq_eq_false_iff_ne.mpr c62
                 have c62b1 : ((x4_1.length : Int) != 1) = true := bne_iff_ne.mpr c62
                 simp only [Option.some.injEq, Prod.mk.injEq] at H
                 obtain ⟨rfl, rfl, rfl, rfl⟩ := H
                 obtain ⟨Ao69, co69, eo69, _⟩ := Kd.Q_slice HO_4.out
                 subst eo69
                 have hcz70_0 : wc.cell? ⟨gb159, 0, none⟩ = some (.int .u8 0) := (blk_cell BK159.out 0).trans rfl
                 have hcz70_1 : wc.cell? ⟨gb159, 1, none⟩ = some (.string (⟨#[]⟩ : ByteArray)) := (blk_cell BK159.out 1).trans rfl
                 have hcz70_2 : wc.cell? ⟨gb159, 2, none⟩ = some (.slice none 0 0) := (blk_cell BK159.out 2).trans rfl
                 have hfz70_0 := blk_frozen BK159.out 0
                 have hfz70_1 := blk_frozen BK159.out 1
                 have hfz70_2 := blk_frozen BK159.out 2
                 go_wp2
                 refine bodyPost_ret (results_ct rfl _ _ gb159 40 #[.int .u8 0, .string (⟨#[]⟩ : ByteArray), .slice none 0 0] (0, 0) _ rfl (by (with_reducible repeat (first | refine blk_drewN ?_ _ | refine blk_drew ?_ | refine blk_alloc ?_ _)); refine blk_put (cs := #[.int .u8 0, .string (⟨#[]⟩ : ByteArray), .slice none 0 0]) ?_ 2 _ rfl; (with_reducible repeat (first | refine blk_drewN ?_ _ | refine blk_drew ?_ | refine blk_alloc ?_ _)); refine blk_put (cs := #[.int .u8 0, .string (⟨#[]⟩ : ByteArray), .slice none 0 0]) ?_ 1 _ rfl; (with_reducible repeat (first | refine blk_drewN ?_ _ | refine blk_drew ?_ | refine blk_alloc ?_ _)); refine blk_put (cs := #[.int .u8 0, .string (⟨#[]⟩ : ByteArray), .slice none 0 0]) ?_ 0 _ rfl; (with_reducible repeat (first | refine blk_drewN ?_ _ | refine blk_drew ?_ | refine blk_alloc ?_ _)); exact BK159.out) Tryd.underlying40 rfl (by kernel_rfl)) rfl ?_
                 exact ⟨_, by first | rfl | (simp [errW_none, errW_some] <;> rfl) | (simp [*, errW_none, errW_some] <;> rfl), by first | exact Kd.R_nil _ _ _ _ _ | exact Kd.N_nil _ _ _ _ _ | exact Kd.V_nil _ _ _ _ _ | exact Kd.Q_nil _ _ _ _ _ | exact Kd.S_nil _ _ _ _ _, by repeat (first | (with_reducible first | exact HB.out | apply below_alloc | apply pw_below_drewN | apply below_drew1 | refine below_set ?_ GE159.out) | exact HB.out)⟩

end Go.Proofs.YtcblmfcgjemgkaaDoor.XS
-- squeezed
