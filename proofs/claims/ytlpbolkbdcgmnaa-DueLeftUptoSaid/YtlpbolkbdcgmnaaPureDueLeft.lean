/- For every list of timers and every time within the bound: what is drained is due, and in order; what is left is not; together they are as many as there were. -/
import Derived.Test.YtlpbolkbdcgmnaaUDueLeft
import Derived.Test.YtlpbolkbdcgmnaaQDueF
set_option linter.unusedVariables false
set_option linter.unusedSimpArgs false
namespace Go.Proofs.Ytlpbolkbdcgmnaa.XD
open Go.RowKit Go.Proofs.YtlpbolkbdcgmnaaW.PrintWords Go.Proofs.YtlpbolkbdcgmnaaW.PrintLast Go.Proofs.YtlpbolkbdcgmnaaW.PrintMore
theorem left_loop (h : List S29) (now : Int) (x l : List S29) (n : Int) (hx : HRight x) (hd : ∀ t ∈ x, now < t.f0) (hn : n = (l.length : Int)) (hs : l.length + x.length = h.length) (hh : h.length < 4398046511104) : ∀ (d i : Nat), x.length = i + d →
    Ev (fun k => bellmanlaw16_DueLeft.l1 k h now x l n 0 x (x.length : Int) (i : Int)) true := by
  intro d
  induction d with
  | zero =>
    intro i hi
    refine Ev.step (fun k => by rw [bellmanlaw16_DueLeft.l1, if_neg (by omega), if_pos rfl, if_pos hn, if_pos (by unfold wrap64; omega)]) (Ev.bind (check_ev x hx.fit) ?_)
    rw [hchk_yes hx]
    exact Ev.now _
  | succ d ih =>
    intro i hi
    have hil : i < x.length := by omega
    have h1 := hd _ (List.getElem_mem hil)
    refine Ev.step (fun k => ?_) (ih (i + 1) (by omega))
    have hf := hx.few
    rw [bellmanlaw16_DueLeft.l1, if_pos (by omega), if_pos (by omega), if_pos (by omega), rd_at x i hil, if_neg (by omega), wrap_succ i (by omega)]
theorem due_loop (h : List S29) (now : Int) (x l : List S29) (n : Int) (hx : HRight x) (hd : ∀ t ∈ x, now < t.f0) (hl : ∀ t ∈ l, t.f0 ≤ now) (hu : Hp.Up tm_lt l) (ho : (l.map (·.f1)).Nodup) (hn : n = (l.length : Int)) (hs : l.length + x.length = h.length) (hh : h.length < 4398046511104) : ∀ (d i : Nat), l.length = i + d →
    Ev (fun k => bellmanlaw16_DueLeft.l0 k h now x l n 0 l (l.length : Int) (i : Int)) true := by
  intro d
  induction d with
  | zero =>
    intro i hi
    refine Ev.step (fun k => by rw [bellmanlaw16_DueLeft.l0, if_neg (by omega)]; rfl) (left_loop h now x l n hx hd hn hs hh x.length 0 (by omega))
  | succ d ih =>
    intro i hi
    have hil : i < l.length := by omega
    have h1 := hl _ (List.getElem_mem hil)
    have h2 := ih (i + 1) (by omega)
    cases i with
    | zero =>
      refine Ev.step (fun k => ?_) h2
      rw [bellmanlaw16_DueLeft.l0, if_pos (by omega), if_pos (by omega), if_pos (by omega), rd_at l 0 hil, if_neg (by omega), if_neg (by omega), wrap_succ 0 (by omega)]
    | succ j =>
      have hw : wrap64 (((j + 1 : Nat) : Int) - 1) = (j : Int) := by unfold wrap64; omega
      refine Ev.step (fun k => ?_) h2
      rw [bellmanlaw16_DueLeft.l0, if_pos (by omega), if_pos (by omega), if_pos (by omega), rd_at l (j + 1) hil, if_neg (by omega), if_pos (by omega), hw, if_pos (by omega), if_pos (by omega), rd_at l j (by omega), ahead_f, up_strict ho hu j hil, Option.bind_some, if_pos rfl, wrap_succ (j + 1) (by omega)]
theorem pure_DueLeft : bellmanlaw16_DueLeft.PureU := by
  intro l now _ _ hsz
  rw [sum_ones5] at hsz
  have hl : l.length < 4398046511104 := by omega
  refine Ev.rounds ?_
  unfold bellmanlaw16_DueLeft.f
  refine Ev.bind lives16 (Ev.congr (fun k => if_pos rfl) ?_)
  by_cases hr : HRight l
  · obtain ⟨i1, i2, i3, i4, i5⟩ := pops_spec now l.length l rfl hr
    refine Ev.bind (drain_yes now l hr) (Ev.bind (count_yes now l hr) (Ev.congr (fun k => if_pos rfl) ?_))
    have ho : ((du_pops now l.length l).1.map (·.f1)).Nodup := by
      have h1 := (i2.map (·.f1)).nodup_iff.mpr hr.once
      rw [List.map_append] at h1
      exact (List.nodup_append.mp h1).1
    refine due_loop l now _ _ _ i1 i5 i4 i3 ho ?_ ?_ hl _ 0 (by rw [Nat.zero_add])
    · rw [pops_due now l hr]
    · have h9 := i2.length_eq
      rw [List.length_append] at h9
      exact h9
  · exact Ev.bind (drain_no now l hl hr) (Ev.bind (count_no now l hl hr) (Ev.congr (fun k => if_neg (by decide)) (Ev.congr (fun k => if_pos rfl) (Ev.now _))))
end Go.Proofs.Ytlpbolkbdcgmnaa.XD
namespace Go.Proofs.Ytlpbolkbdcgmnaa.Pure
theorem DueLeft : XD.bellmanlaw16_DueLeft.PureU := XD.pure_DueLeft
end Go.Proofs.Ytlpbolkbdcgmnaa.Pure
