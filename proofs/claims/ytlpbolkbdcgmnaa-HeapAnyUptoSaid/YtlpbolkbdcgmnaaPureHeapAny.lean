/- For every list of timers within the bound: pushed one by one, they lie in the heap as if it were made of them. -/
import Derived.Test.YtlpbolkbdcgmnaaUHeapAny
import Derived.Test.YtlpbolkbdcgmnaaQHeapG
import Derived.Test.YtlpbolkbdcgmnaaQHeapL
set_option linter.unusedVariables false
set_option linter.unusedSimpArgs false
namespace Go.Proofs.Ytlpbolkbdcgmnaa.XH
open Go.RowKit Go.Proofs.YtlpbolkbdcgmnaaW.PrintWords Go.Proofs.YtlpbolkbdcgmnaaW.PrintLast Go.Proofs.YtlpbolkbdcgmnaaW.PrintMore
theorem any_loop (l h : List S29) (hl : l.length ≤ 60) (hn : (l.map (·.f1)).Nodup) (hh : HRight h) (hp : h.Perm l) : ∀ (d i : Nat) (q : List S29), l.length = i + d → HRight q → q.Perm (l.take i) →
    Ev (fun k => bellmanlaw15_HeapAny.l0 k l h q l (l.length : Int) (i : Int)) true := by
  intro d
  induction d with
  | zero =>
    intro i q hi hq hqp
    have hqp2 : q.Perm h := by
      rw [List.take_of_length_le (by omega)] at hqp
      exact hqp.trans hp.symm
    have hso := sorted_ev h hh.fit
    rw [hsorted_yes (hchk_yes hh)] at hso
    have hsq := sorted_ev q hq.fit
    rw [hsorted_yes (hchk_yes hq), Hp.srt_eq tm_swo hh.apart hqp2] at hsq
    have hfit : (Hp.srt tm_lt h).length < 4398046511104 := by rw [(Hp.srt_perm h).length_eq]; exact hh.fit
    refine Ev.step (fun k => by rw [bellmanlaw15_HeapAny.l0, if_neg (by omega)]) (Ev.bind hso (Ev.bind hsq (Ev.congr (fun k => if_pos rfl) (Ev.congr (fun k => if_pos rfl) (Ev.bind (same_refl (Hp.srt tm_lt h) hfit) (Ev.congr (fun k => if_pos rfl) ?_))))))
    rw [show (Hp.srt tm_lt h).length = l.length by rw [(Hp.srt_perm h).length_eq, hp.length_eq], beq_self_eq_true]
    exact Ev.now _
  | succ d ih =>
    intro i q hi hq hqp
    have hil : i < l.length := by omega
    have hql : q.length = i := by rw [hqp.length_eq, List.length_take]; omega
    have hx : ∀ y ∈ q, y.f1 ≠ l[i].f1 := by
      intro y hy
      obtain ⟨j, hj, rfl⟩ := List.getElem_of_mem (hqp.mem_iff.mp hy)
      rw [List.length_take] at hj
      rw [List.getElem_take]
      rw [List.Nodup, List.pairwise_iff_getElem] at hn
      have := hn j i (by simp; omega) (by simpa using hil) (by omega)
      simpa using this
    have hf : ¬ 0 ≤ hp_find l[i].f1 q := by
      rcases find_spec l[i].f1 q with ⟨h1, _⟩ | ⟨j, hj, _, h2⟩
      · omega
      · exact absurd h2 (hx _ (List.getElem_mem hj))
    obtain ⟨p1, p2⟩ := push_right hq l[i] hx (by omega)
    have hpu := push_ev q hq l[i]
    rw [if_neg hf, if_neg hf, if_neg (show ¬ q.length = 4096 by omega), if_neg (show ¬ q.length = 4096 by omega)] at hpu
    refine Ev.step (fun k => by rw [bellmanlaw15_HeapAny.l0, if_pos (by omega), if_pos (by omega), if_pos (by omega), rd_at l i hil]) (Ev.bind hpu (Ev.congr (fun k => if_pos rfl) ?_))
    rw [wrap_succ i (by omega)]
    refine ih (i + 1) _ (by omega) p1 (p2.trans ?_)
    rw [List.take_succ_eq_append_getElem hil]
    exact (hqp.cons l[i]).trans (List.perm_append_comm (l₁ := [l[i]]) (l₂ := l.take i))
theorem pure_HeapAny : bellmanlaw15_HeapAny.PureU := by
  intro l _ hsz
  rw [sum_ones5] at hsz
  have hl : l.length < 4398046511104 := by omega
  refine Ev.rounds ?_
  unfold bellmanlaw15_HeapAny.f
  refine Ev.bind lives_ev (Ev.congr (fun k => if_pos rfl) ?_)
  by_cases c : 60 < l.length
  · exact Ev.congr (fun k => if_pos (by omega)) (Ev.now _)
  · refine Ev.congr (fun k => if_neg (by omega)) ?_
    have hm := make_some l hl
    by_cases cn : (l.map (·.f1)).Nodup
    · rw [if_pos cn, if_neg (by omega)] at hm
      simp only [hm, Option.bind_some, if_true]
      have hr := make_right l cn (by omega)
      have hp := (Hp.heapify_both z29 (lt := tm_lt) (l.length / 2) l (by omega)).2
      exact any_loop l _ (by omega) cn hr hp l.length 0 [] (by omega) right_nil (List.Perm.refl _)
    · rw [if_neg cn] at hm
      simp only [hm, Option.bind_some]
      exact Ev.now _
end Go.Proofs.Ytlpbolkbdcgmnaa.XH
namespace Go.Proofs.Ytlpbolkbdcgmnaa.Pure
theorem HeapAny : XH.bellmanlaw15_HeapAny.PureU := XH.pure_HeapAny
end Go.Proofs.Ytlpbolkbdcgmnaa.Pure
