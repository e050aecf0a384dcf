import Derived.Test.YtlnadfhhgcpkpaaXW0
import Derived.Test.YtlnadfhhgcpkpaaXW4
import Derived.Test.YtlnadfhhgcpkpaaXW7
import Derived.Test.YtlnadfhhgcpkpaaXW14
import Derived.Test.YtlnadfhhgcpkpaaXW15
import Derived.Test.YtlnadfhhgcpkpaaXW16
import Derived.Test.YtlnadfhhgcpkpaaXW17
import Derived.Lib.Hide
namespace Go.Proofs.Ytlnadfhhgcpkpaa.XW
open Go.RowKit Go.Proofs.YtlnadfhhgcpkpaaW.PrintWords Go.Proofs.YtlnadfhhgcpkpaaW.PrintLast Go.Proofs.YtlnadfhhgcpkpaaW.PrintMore
attribute [local go_sem] max2_int min2_int max_two min_two max_three min_three max_four min_four   -- for this text's walks alone
set_option linter.unusedVariables false
set_option linter.unusedSimpArgs false
/-- Whether a range has a minute, as the statement's loop asks. -/
def wh_in (m : Int) (x : S38) : Bool := (decide (x.f0 ≤ x.f1) && decide (x.f0 ≤ m) && decide (m < x.f1)) || (decide (x.f1 < x.f0) && (decide (x.f0 ≤ m) || decide (m < x.f1)))
def wh_any (m : Int) (l : List (S38)) (i : Nat) : Bool := (l.take i).any (wh_in m)
theorem wh_any_step (m : Int) (l : List (S38)) (i : Nat) (h : i < l.length) : wh_any m l (i + 1) = (wh_any m l i || wh_in m (rd_T38 l (i : Int))) := by
  unfold wh_any
  have e : rd_T38 l (i : Int) = l[i] := by
    unfold rd_T38
    rw [Int.toNat_natCast, List.getD_eq_getElem?_getD, List.getElem?_eq_getElem h]
    rfl
  rw [e, List.take_succ_eq_append_getElem h, List.any_append]
  simp
def wh_mid (k : Nat) (l0 l1 : List (S38)) (a3 : Int) (p q : Bool) : Option Unit :=
  (week_And.f k l0 l1).bind fun x => (week_Or.f k l0 l1).bind fun y => (week_Not.f k l0).bind fun z => (week_Has.f k x.1 a3).bind fun i => (week_Has.f k y.1 a3).bind fun j => (week_Has.f k z.1 a3).bind fun n =>
    if (x.2 = 0 → i.2 = 0 ∧ i.1 = (p && q)) ∧ (y.2 = 0 → j.2 = 0 ∧ j.1 = (p || q)) ∧ (z.2 = 0 → n.2 = 0 ∧ n.1 = !p) then some () else none
def wh_end (k : Nat) (l2 : List (S38)) (a3 : Int) : Option Bool :=
  (week_Make.f k l2).bind fun w => if w.2 ≠ 0 ∨ a3 < 0 ∨ a3 ≥ 10080 then some true else (week_Has.f k w.1 a3).bind fun h => if h.2 = 0 ∧ h.1 = wh_any a3 l2 l2.length then some true else none
def bellmanlaw07_WeekHas.f (k : Nat) (l0 l1 l2 : List (S38)) (a3 : Int) : Option Bool :=
  (bellmanlaw07_lives.f k).bind fun t => if t = true then (week_Has.f k l0 a3).bind fun p => (week_Has.f k l1 a3).bind fun q => (if p.2 = 0 ∧ q.2 = 0 then wh_mid k l0 l1 a3 p.1 q.1 else some ()).bind fun _ => wh_end k l2 a3 else none
set_option maxHeartbeats 4000000 in
set_option maxRecDepth 100000 in
theorem bellmanlaw07_WeekHas.calls (k : Nat) (A0 : Option Addr) (c0 : Nat) (l0 : List (S38)) (A1 : Option Addr) (c1 : Nat) (l1 : List (S38)) (A2 : Option Addr) (c2 : Nat) (l2 : List (S38)) (a3 : Int) (r : Bool) (w : World) (hr0 : Kd.C k38 w A0 l0.length l0) (hc0 : l0.length ≤ c0) (hr1 : Kd.C k38 w A1 l1.length l1) (hc1 : l1.length ≤ c1) (hr2 : Kd.C k38 w A2 l2.length l2) (hc2 : l2.length ≤ c2) (h : bellmanlaw07_WeekHas.f k l0 l1 l2 a3 = some r) :
    Calls Try.prog 5 #[.slice A0 l0.length c0, .slice A1 l1.length c1, .slice A2 l2.length c2, .int .i64 a3] w fun e w' => e = .returned (.bool r) ∧ Below w.heap.size w w' := by
  have hu := Try.underlying38
  have hlen := hr2.2.1
  have HR0 := Lib.hid hr0
  have HC0 := Lib.hid hc0
  have HR1 := Lib.hid hr1
  have HC1 := Lib.hid hc1
  have HR2 := Lib.hid hr2
  have HC2 := Lib.hid hc2
  clear hr0 hc0 hr1 hc1 hr2 hc2
  unfold bellmanlaw07_WeekHas.f at h
  obtain ⟨t, L0, h1⟩ := Option.bind_eq_some_iff.mp h
  clear h
  by_cases ct : t = true
  rotate_left
  · rw [if_neg ct] at h1; cases h1
  rw [if_pos ct] at h1
  subst ct
  obtain ⟨⟨p, pe⟩, P0, h2⟩ := Option.bind_eq_some_iff.mp h1
  clear h1
  obtain ⟨⟨q, qe⟩, Q0, h3⟩ := Option.bind_eq_some_iff.mp h2
  clear h2
  obtain ⟨⟨⟩, M0, h⟩ := Option.bind_eq_some_iff.mp h3
  clear h3
  have HL := Lib.hid L0
  have HP := Lib.hid P0
  have HQ := Lib.hid Q0
  have HM := Lib.hid M0
  have HE := Lib.hid h
  clear L0 P0 Q0 M0 h
  have HB := Lib.hid (Below.refl w.heap.size w)
  go_enter Try.func5, Try.ntmps5
  go_upto_region 4 with (first | (go_at_call 16; refine (bellmanlaw07_lives.calls k true _ HL.out).mono ?_; rintro e wx1 ⟨rfl, hb⟩; have HB1 := Lib.hid (below_step HB.out hb); clear hb HB; have HB := HB1; clear HB1) | (go_at_call 10; refine (week_Has.calls k A0 c0 l0 a3 p pe _ (Kd.C_below HR0.out HB.out) HC0.out HP.out).mono ?_; rintro e wx2 ⟨rfl, hb⟩; have HB1 := Lib.hid (below_step HB.out hb); clear hb HB; have HB := HB1; clear HB1))
  go_upto_region 5 with (go_at_call 10; refine (week_Has.calls k A1 c1 l1 a3 q qe _ (Kd.C_below HR1.out HB.out) HC1.out HQ.out).mono ?_; rintro e wx2 ⟨rfl, hb⟩; have HB1 := Lib.hid (below_step HB.out hb); clear hb HB; have HB := HB1; clear HB1)
  go_cut [51] (fun v51 wc => v51 = .bool (decide (pe = 0 ∧ qe = 0)) ∧ Hid (Below w.heap.size w wc))
  case first =>
    by_cases d1 : pe = 0
    · have d1b : (pe == 0) = true := beq_iff_eq.mpr d1
      by_cases d2 : qe = 0
      · have d2b : (qe == 0) = true := beq_iff_eq.mpr d2
        have dd := Lib.hid (decide_eq_true (p := pe = 0 ∧ qe = 0) ⟨d1, d2⟩)
        clear d1 d2
        go_wp2
        go_meet
        case rel => exact ⟨by rw [dd.out], HB⟩
      · have d2b : (qe == 0) = false := beq_eq_false_iff_ne.mpr d2
        have dd := Lib.hid (decide_eq_false (p := pe = 0 ∧ qe = 0) (fun h => d2 h.2))
        clear d1 d2
        go_wp2
        go_meet
        case rel => exact ⟨by rw [dd.out], HB⟩
    · have d1b : (pe == 0) = false := beq_eq_false_iff_ne.mpr d1
      have dd := Lib.hid (decide_eq_false (p := pe = 0 ∧ qe = 0) (fun h => d1 h.1))
      clear d1
      go_wp2
      go_meet
      case rel => exact ⟨by rw [dd.out], HB⟩
  case rest =>
  clear HB
  obtain ⟨rfl, HB⟩ := hcut
  obtain ⟨b51, hb51⟩ : ∃ b, b = decide (pe = 0 ∧ qe = 0) := ⟨_, rfl⟩
  rw [← hb51]
  have HM1 : (if b51 = true then wh_mid k l0 l1 a3 p q else some ()) = some () := by
    rw [hb51]
    have := HM.out
    by_cases c : pe = 0 ∧ qe = 0
    · rw [if_pos c] at this
      rw [decide_eq_true c, if_pos rfl]
      exact this
    · rw [decide_eq_false c, if_neg (by decide)]
  clear HM
  have HM := Lib.hid HM1
  clear HM1 hb51
  go_upto_if 51 with (fail)
  go_cut [13] (fun v13 wd => Hid (Below w.heap.size w wd))
  case first =>
    cases b51 with
    | false =>
      go_wp2
      go_meet
      case rel => exact HB
    | true =>
      have h := HM.out
      rw [if_pos rfl] at h
      clear HM
      unfold wh_mid at h
      obtain ⟨⟨x, xe⟩, X0, h1⟩ := Option.bind_eq_some_iff.mp h
      clear h
      obtain ⟨⟨y, ye⟩, Y0, h2⟩ := Option.bind_eq_some_iff.mp h1
      clear h1
      obtain ⟨⟨z, ze⟩, Z0, h3⟩ := Option.bind_eq_some_iff.mp h2
      clear h2
      obtain ⟨⟨i, ie⟩, I0, h4⟩ := Option.bind_eq_some_iff.mp h3
      clear h3
      obtain ⟨⟨j, je⟩, J0, h5⟩ := Option.bind_eq_some_iff.mp h4
      clear h4
      obtain ⟨⟨n, ne⟩, N0, h6⟩ := Option.bind_eq_some_iff.mp h5
      clear h5
      have X := Lib.hid X0
      have Y := Lib.hid Y0
      have Z := Lib.hid Z0
      have I := Lib.hid I0
      have J := Lib.hid J0
      have N := Lib.hid N0
      have HH := Lib.hid h6
      clear X0 Y0 Z0 I0 J0 N0 h6
      go_upto_region 7 with (go_at_call 22; refine (week_And.calls k (fun k_ => k_ < w.heap.size) A0 c0 l0 (fun k_ => k_ < w.heap.size) A1 c1 l1 x xe _ (Kd.V_mk HC0.out (Kd.F_below (Kd.C_F k38_heap HR0.out) HB.out)) (Kd.V_mk HC1.out (Kd.F_below (Kd.C_F k38_heap HR1.out) HB.out)) X.out).mono ?_; rintro e wa ⟨vx, rfl, hox, hb⟩; obtain ⟨Ax, cx, rfl, hcx, hCx⟩ := Kd.R_reads hox; have HLx := Lib.hid hcx; have HCx := Lib.hid hCx; have HB1 := Lib.hid (below_step HB.out hb); clear hox hcx hCx hb HB; have HB := HB1; clear HB1)
      go_upto_region 8 with (go_at_call 24; refine (week_Or.calls k (fun k_ => k_ < w.heap.size) A0 c0 l0 (fun k_ => k_ < w.heap.size) A1 c1 l1 y ye _ (Kd.V_mk HC0.out (Kd.F_below (Kd.C_F k38_heap HR0.out) HB.out)) (Kd.V_mk HC1.out (Kd.F_below (Kd.C_F k38_heap HR1.out) HB.out)) Y.out).mono ?_; rintro e wo ⟨vy, rfl, hoy, hb⟩; obtain ⟨Ay, cy, rfl, hcy, hCy⟩ := Kd.R_reads hoy; have HLy := Lib.hid hcy; have HCy := Lib.hid hCy; have n_ := Lib.hid (Kd.C_below HCx.out hb); clear HCx; have HCx := n_; clear n_; have HB1 := Lib.hid (below_step HB.out hb); clear hoy hcy hCy hb HB; have HB := HB1; clear HB1)
      go_upto_region 9 with (go_at_call 20; refine (week_Not.calls k A0 c0 l0 z ze _ (Kd.C_below HR0.out HB.out) HC0.out Z.out).mono ?_; rintro e wn ⟨vz, rfl, hoz, hb⟩; obtain ⟨Az, cz, rfl, hcz, hCz⟩ := Kd.R_reads hoz; have HLz := Lib.hid hcz; have HCz := Lib.hid hCz; have n_ := Lib.hid (Kd.C_below HCx.out hb); clear HCx; have HCx := n_; clear n_; have n_ := Lib.hid (Kd.C_below HCy.out hb); clear HCy; have HCy := n_; clear n_; have HB1 := Lib.hid (below_step HB.out hb); clear hoz hcz hCz hb HB; have HB := HB1; clear HB1)
      go_upto_region 10 with (go_at_call 10; refine (week_Has.calls k Ax cx x a3 i ie _ HCx.out HLx.out I.out).mono ?_; rintro e w10 ⟨rfl, hb⟩; have HB1 := Lib.hid (below_step HB.out hb); have n_ := Lib.hid (Kd.C_below HCy.out hb); clear HCy; have HCy := n_; clear n_; have n_ := Lib.hid (Kd.C_below HCz.out hb); clear HCz; have HCz := n_; clear n_; clear hb HB; have HB := HB1; clear HB1)
      go_upto_region 11 with (go_at_call 10; refine (week_Has.calls k Ay cy y a3 j je _ HCy.out HLy.out J.out).mono ?_; rintro e w11 ⟨rfl, hb⟩; have HB1 := Lib.hid (below_step HB.out hb); have n_ := Lib.hid (Kd.C_below HCz.out hb); clear HCz; have HCz := n_; clear n_; clear hb HB; have HB := HB1; clear HB1)
      go_upto_region 12 with (go_at_call 10; refine (week_Has.calls k Az cz z a3 n ne _ HCz.out HLz.out N.out).mono ?_; rintro e w12 ⟨rfl, hb⟩; have HB1 := Lib.hid (below_step HB.out hb); skip; clear hb HB; have HB := HB1; clear HB1)
      have h6 := HH.out
      have hc : (xe = 0 → ie = 0 ∧ i = (p && q)) ∧ (ye = 0 → je = 0 ∧ j = (p || q)) ∧ (ze = 0 → ne = 0 ∧ n = !p) := by
        by_cases c : (xe = 0 → ie = 0 ∧ i = (p && q)) ∧ (ye = 0 → je = 0 ∧ j = (p || q)) ∧ (ze = 0 → ne = 0 ∧ n = !p)
        · exact c
        · exfalso
          rw [if_neg c] at h6
          cases h6
      have hy : (ye = 0 ∧ je = 0 ∧ j = (p || q)) ∨ (ye == 0) = false := by
        by_cases c : ye = 0
        · exact .inl ⟨c, hc.2.1 c⟩
        · exact .inr (beq_eq_false_iff_ne.mpr c)
      have hz : (ze = 0 ∧ ne = 0 ∧ n = !p) ∨ (ze == 0) = false := by
        by_cases c : ze = 0
        · exact .inl ⟨c, hc.2.2 c⟩
        · exact .inr (beq_eq_false_iff_ne.mpr c)
      have hx : (xe = 0 ∧ ie = 0 ∧ i = (p && q)) ∨ (xe == 0) = false := by
        by_cases c : xe = 0
        · exact .inl ⟨c, hc.1 c⟩
        · exact .inr (beq_eq_false_iff_ne.mpr c)
      clear h6 hc HH X Y Z I J N HCx HCy HCz HLx HLy HLz HP HQ HL HE HR0 HR1 HR2 HC0 HC1 HC2
      cases p
      all_goals simp only [Bool.true_and, Bool.false_and, Bool.true_or, Bool.false_or, Bool.not_true, Bool.not_false] at hx hy hz
      all_goals rcases hx with ⟨rfl, rfl, rfl⟩ | hx <;> rcases hy with ⟨rfl, rfl, rfl⟩ | hy <;> rcases hz with ⟨rfl, rfl, rfl⟩ | hz
      all_goals (as_aux_lemma => (go_wp2; go_meet; case rel => exact HB))
  case rest =>
  clear HB HM
  have HB := hcut
  clear hcut
  have h := HE.out
  clear HE
  unfold wh_end at h
  obtain ⟨⟨mk, me⟩, X0, h1⟩ := Option.bind_eq_some_iff.mp h
  clear h
  have X := Lib.hid X0
  clear X0
  go_upto_region 15 with (go_at_call 8; refine (week_Make.calls k A2 c2 l2 mk me _ (Kd.C_below HR2.out HB.out) HC2.out X.out).mono ?_; rintro e wm ⟨vm, rfl, hom, hb⟩; obtain ⟨Am, cm, rfl, hcm, hCm⟩ := Kd.R_reads hom; have HLm := Lib.hid hcm; have HCm := Lib.hid hCm; have HBw := Lib.hid (below_step HB.out hb); have HRm := Lib.hid (Kd.C_below HR2.out HBw.out); clear hom hcm hCm hb HB)
  by_cases d0 : me ≠ 0 ∨ a3 < 0 ∨ a3 ≥ 10080
  · rw [if_pos d0] at h1
    obtain rfl := Option.some.inj h1
    clear h1
    by_cases d1 : me = 0
    · have d1b : (me == 0) = true := beq_iff_eq.mpr d1
      have d1c : (me != 0) = false := bne_eq_false_iff_eq.mpr d1
      by_cases d2 : a3 < 0
      · have d2b : decide (a3 < 0) = true := decide_eq_true d2
        clear d0 d1
        go_wp2
        go_ret
        exact ⟨rfl, HBw.out⟩
      · have d2b : decide (a3 < 0) = false := decide_eq_false d2
        have d3 : (10080 : Int) ≤ a3 := by omega
        have d3b : decide ((10080 : Int) ≤ a3) = true := decide_eq_true d3
        clear d0 d1
        go_wp2
        go_ret
        exact ⟨rfl, HBw.out⟩
    · have d1b : (me == 0) = false := beq_eq_false_iff_ne.mpr d1
      have d1c : (me != 0) = true := bne_iff_ne.mpr d1
      clear d0 d1
      go_wp2
      go_ret
      exact ⟨rfl, HBw.out⟩
  rw [if_neg d0] at h1
  have d1 : me = 0 := by omega
  have d2 : ¬ a3 < 0 := by omega
  have d3 : ¬ (10080 : Int) ≤ a3 := by omega
  clear d0
  subst d1
  have d2b : decide (a3 < 0) = false := decide_eq_false d2
  have d3b : decide ((10080 : Int) ≤ a3) = false := decide_eq_false d3
  obtain ⟨⟨hv, he⟩, N0, h2⟩ := Option.bind_eq_some_iff.mp h1
  clear h1
  have N := Lib.hid N0
  have HF := Lib.hid h2
  clear N0 h2
  go_wp2
  clear d2b d3b d2 d3
  go_loopw [27, 147] (fun v27 v147 w' => ∃ i : Nat, i ≤ l2.length ∧ v147 = .int .i64 (i : Int) ∧ v27 = .bool (wh_any a3 l2 i) ∧ Hid (Below wm.heap.size wm w')) (fun _ v147 _ => l2.length - (intOf v147).toNat)
  case atStart => exact ⟨0, Nat.zero_le _, rfl, rfl, Lib.hid (Below.refl _ _)⟩
  case round =>
    obtain ⟨i, hi, rfl, rfl, HB⟩ := hrel
    by_cases hil : i < l2.length
    · have h1 : ((i : Int) < (l2.length : Int)) := by omega
      have h0 : (0 : Int) ≤ (i : Int) := by omega
      obtain ⟨ad, e0, hx0, hx1⟩ := at_T38 HRm.out (i : Int) h0 h1
      cases e0
      replace hx0 := (HB.out.cell (World.block_lt_of_cell? wm _ hx0)).trans hx0
      replace hx1 := (HB.out.cell (World.block_lt_of_cell? wm _ hx1)).trans hx1
      simp only [Int.toNat_natCast] at hx0 hx1
      have hst := wh_any_step a3 l2 i hil
      generalize rd_T38 l2 (i : Int) = x at hx0 hx1 hst
      have HS := Lib.hid hst
      clear hst
      have d1 : decide ((i : Int) < (l2.length : Int)) = true := decide_eq_true h1
      have p1 := eq_true h0
      have q1 := eq_true h1
      have qi1 : (i < l2.length) = True := eq_true hil
      go_upto_region 21 with ((with_reducible refine gate_dst (N := 29) rfl ?_); refine box_event ?hg (N := 29) ?hd (cs := #[.int .i64 0, .int .i64 0]) (t := 38) ?hr ?_; (case hd => rfl); (case hg => rfl); (case hr => first | (go_simp; done) | (go_simp; rfl)); intro gb hg wb hbox hb; have HB1 := Lib.hid (below_step HB.out hb); have GE := Lib.hid ((by rw [hg]; exact below_size HB.out) : wm.heap.size ≤ gb); have BK := Lib.hid hbox; have hcz0 : wb.cell? ⟨gb, 0, none⟩ = some (.int .i64 0) := (blk_cell hbox 0).trans rfl; have hcz1 : wb.cell? ⟨gb, 1, none⟩ = some (.int .i64 0) := (blk_cell hbox 1).trans rfl; have hfz0 := blk_frozen hbox 0; have hfz1 := blk_frozen hbox 1; clear hg hbox hb HB)
      have HB2 := Lib.hid (below_set (v := .int .i64 x.f1) (j := 1) (below_set (v := .int .i64 x.f0) (j := 0) HB1.out GE.out) GE.out)
      have hz : ((wb.setCell ⟨gb, 0, none⟩ (.int .i64 x.f0)).setCell ⟨gb, 1, none⟩ (.int .i64 x.f1)).heap[gb]? = some (.cells #[.int .i64 x.f0, .int .i64 x.f1] 38 (0, 0)) := by refine blk_put (cs := #[.int .i64 x.f0, .int .i64 0]) ?_ 1 _ rfl; refine blk_put (cs := #[.int .i64 0, .int .i64 0]) ?_ 0 _ rfl; exact BK.out
      clear HB1 GE BK hcz0 hcz1 hfz0 hfz1 hx0 hx1
      generalize ((wb.setCell ⟨gb, 0, none⟩ (.int .i64 x.f0)).setCell ⟨gb, 1, none⟩ (.int .i64 x.f1)) = W at HB2 hz ⊢
      have hc0 : W.cell? ⟨gb, 0, none⟩ = some (.int .i64 x.f0) := (blk_cell hz 0).trans rfl
      have hc1 : W.cell? ⟨gb, 1, none⟩ = some (.int .i64 x.f1) := (blk_cell hz 1).trans rfl
      clear hz
      generalize wh_any a3 l2 i = b at HS ⊢
      cases b with
      | true =>
        have HV := Lib.hid (show wh_any a3 l2 (i + 1) = true by rw [HS.out, Bool.true_or])
        go_wp2
        go_roundw
        case rel => exact ⟨i + 1, by omega, by go_num, by rw [HV.out], HB2⟩
        case measure => simp [intOf]; omega
      | false =>
        have HT : wh_any a3 l2 (i + 1) = wh_in a3 x := by rw [HS.out, Bool.false_or]
        unfold wh_in at HT
        by_cases c1 : x.f0 ≤ x.f1
        · have c1a : decide (x.f0 ≤ x.f1) = true := decide_eq_true c1
          have c1b : decide (x.f1 < x.f0) = false := decide_eq_false (by omega)
          rw [c1a, c1b, Bool.true_and, Bool.false_and, Bool.or_false] at HT
          by_cases c2 : x.f0 ≤ a3
          · have c2a : decide (x.f0 ≤ a3) = true := decide_eq_true c2
            by_cases c3 : a3 < x.f1
            · have c3a : decide (a3 < x.f1) = true := decide_eq_true c3
              rw [c2a, c3a] at HT
              have HV := Lib.hid HT
              clear HT c1 c2 c3
              go_wp2
              go_roundw
              case rel => exact ⟨i + 1, by omega, by go_num, by rw [HV.out]; rfl, HB2⟩
              case measure => simp [intOf]; omega
            · have c3a : decide (a3 < x.f1) = false := decide_eq_false c3
              rw [c2a, c3a] at HT
              have HV := Lib.hid HT
              clear HT c1 c2 c3
              go_wp2
              go_roundw
              case rel => exact ⟨i + 1, by omega, by go_num, by rw [HV.out]; rfl, HB2⟩
              case measure => simp [intOf]; omega
          · have c2a : decide (x.f0 ≤ a3) = false := decide_eq_false c2
            rw [c2a] at HT
            have HV := Lib.hid HT
            clear HT c1 c2
            go_wp2
            go_roundw
            case rel => exact ⟨i + 1, by omega, by go_num, by rw [HV.out]; rfl, HB2⟩
            case measure => simp [intOf]; omega
        · have c1a : decide (x.f0 ≤ x.f1) = false := decide_eq_false c1
          have c1b : decide (x.f1 < x.f0) = true := decide_eq_true (by omega)
          rw [c1a, c1b, Bool.true_and, Bool.false_and, Bool.false_and, Bool.false_or] at HT
          by_cases c2 : x.f0 ≤ a3
          · have c2a : decide (x.f0 ≤ a3) = true := decide_eq_true c2
            rw [c2a] at HT
            have HV := Lib.hid HT
            clear HT c1 c2
            go_wp2
            go_roundw
            case rel => exact ⟨i + 1, by omega, by go_num, by rw [HV.out]; rfl, HB2⟩
            case measure => simp [intOf]; omega
          · have c2a : decide (x.f0 ≤ a3) = false := decide_eq_false c2
            rw [c2a] at HT
            by_cases c3 : a3 < x.f1
            · have c3a : decide (a3 < x.f1) = true := decide_eq_true c3
              rw [c3a] at HT
              have HV := Lib.hid HT
              clear HT c1 c2 c3
              go_wp2
              go_roundw
              case rel => exact ⟨i + 1, by omega, by go_num, by rw [HV.out]; rfl, HB2⟩
              case measure => simp [intOf]; omega
            · have c3a : decide (a3 < x.f1) = false := decide_eq_false c3
              rw [c3a] at HT
              have HV := Lib.hid HT
              clear HT c1 c2 c3
              go_wp2
              go_roundw
              case rel => exact ⟨i + 1, by omega, by go_num, by rw [HV.out]; rfl, HB2⟩
              case measure => simp [intOf]; omega
    · obtain rfl : i = l2.length := by omega
      have h2 := HF.out
      have hc : he = 0 ∧ hv = wh_any a3 l2 l2.length := by
        by_cases c : he = 0 ∧ hv = wh_any a3 l2 l2.length
        · exact c
        · exfalso
          rw [if_neg c] at h2
          cases h2
      rw [if_pos hc] at h2
      obtain rfl := Option.some.inj h2
      obtain ⟨rfl, hv2⟩ := hc
      rw [← hv2]
      clear h2 hv2 HF hil hi
      go_wp2_with (go_at_call 10; refine (week_Has.calls k Am cm mk a3 hv 0 _ (Kd.C_below HCm.out HB.out) HLm.out N.out).mono ?_; rintro e w12 ⟨rfl, hb⟩; have HB1 := Lib.hid (below_step HB.out hb); clear hb HB; have HB := HB1; clear HB1)
      go_ret
      exact ⟨by simp, below_then HBw.out HBw.out.size HB.out⟩

end Go.Proofs.Ytlnadfhhgcpkpaa.XW
