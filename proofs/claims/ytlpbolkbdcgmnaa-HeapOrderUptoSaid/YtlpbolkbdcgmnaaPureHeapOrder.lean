/- For every list of timers within the bound: the timers come out of the heap in the definition's order, each once. -/
import Derived.Test.YtlpbolkbdcgmnaaUHeapOrder
import Derived.Test.YtlpbolkbdcgmnaaQHeapG
import Derived.Test.YtlpbolkbdcgmnaaQHeapL
set_option linter.unusedVariables false
set_option linter.unusedSimpArgs false
namespace Go.Proofs.Ytlpbolkbdcgmnaa.XH
open Go.RowKit Go.Proofs.YtlpbolkbdcgmnaaW.PrintWords Go.Proofs.YtlpbolkbdcgmnaaW.PrintLast Go.Proofs.YtlpbolkbdcgmnaaW.PrintMore
theorem rfind_mem (l : List S29) (hl : l.length < 4398046511104) (x : S29) (h : x ∈ l) : ∃ r : Int, Ev (fun k => bellmanref15_Find.f k l x.f1) r ∧ 0 ≤ r := by
  obtain ⟨j, hj, rfl⟩ := List.getElem_of_mem h
  exact rfind_ev l hl j hj
theorem order_loop (l : List S29) (hl : l.length ≤ 100) : ∀ (d i : Nat) (h : List S29) (p : S29), l.length = i + d → h.length = d → HRight h → (∀ t ∈ h, t ∈ l) → (0 < i → ∀ t ∈ h, tm_lt p t = true) →
    Ev (fun k => bellmanlaw15_HeapOrder.l0 k l h (l.length : Int) (i : Int) p.f0 p.f1 p.f2 p.f3) true := by
  intro d
  induction d with
  | zero =>
    intro i h p hi hd hr hm hp
    refine Ev.step (fun k => by rw [bellmanlaw15_HeapOrder.l0, if_neg (by omega)]) (Ev.bind (pop_ev h hr) ?_)
    rw [if_pos hd, if_pos hd]
    exact Ev.now _
  | succ d ih =>
    intro i h p hi hd hr hm hp
    have h0 : 0 < h.length := by omega
    obtain ⟨t1, t2, t3⟩ := take_right hr 0 h0
    have hg : Hp.g z29 h 0 ∈ h := t2.mem_iff.mpr List.mem_cons_self
    have hpop := pop_ev h hr
    rw [if_neg (show ¬ h.length = 0 by omega), if_neg (show ¬ h.length = 0 by omega)] at hpop
    have hn := ih (i + 1) (Hp.take_ z29 tm_lt h 0) (Hp.g z29 h 0) (by omega) (by omega) t1 (fun t ht => hm t (t2.mem_iff.mpr (List.mem_cons_of_mem _ ht))) (fun _ => take_ahead hr h0)
    obtain ⟨r, r1, r2⟩ := rfind_mem l (by omega) _ (hm _ hg)
    have hlen : ((Hp.take_ z29 tm_lt h 0).length : Int) = wrap64 ((wrap64 ((l.length : Int) - (i : Int))) - 1) := by
      rw [t3]; unfold wrap64; omega
    have htail : Ev (fun k => (bellmanref15_Find.f k l (Hp.g z29 h 0).f1).bind fun t => if t < 0 then some false else if ((Hp.take_ z29 tm_lt h 0).length : Int) = wrap64 ((wrap64 ((l.length : Int) - (i : Int))) - 1) then bellmanlaw15_HeapOrder.l0 k l (Hp.take_ z29 tm_lt h 0) (l.length : Int) (wrap64 ((i : Int) + 1)) (Hp.g z29 h 0).f0 (Hp.g z29 h 0).f1 (Hp.g z29 h 0).f2 (Hp.g z29 h 0).f3 else some false) true := by
      refine Ev.bind r1 (Ev.congr (fun k => if_neg (by omega)) (Ev.congr (fun k => if_pos hlen) ?_))
      rw [wrap_succ i (by omega)]
      exact hn
    refine Ev.step (fun k => by rw [bellmanlaw15_HeapOrder.l0, if_pos (by omega)]) (Ev.bind hpop (Ev.congr (fun k => if_pos rfl) (Ev.bind (check_ev _ t1.fit) (Ev.congr (fun k => if_pos (hchk_yes t1)) ?_))))
    by_cases hi0 : 0 < i
    · refine Ev.congr (f := fun k => (bellmanref15_Find.f k l (Hp.g z29 h 0).f1).bind fun t => if t < 0 then some false else if ((Hp.take_ z29 tm_lt h 0).length : Int) = wrap64 ((wrap64 ((l.length : Int) - (i : Int))) - 1) then bellmanlaw15_HeapOrder.l0 k l (Hp.take_ z29 tm_lt h 0) (l.length : Int) (wrap64 ((i : Int) + 1)) (Hp.g z29 h 0).f0 (Hp.g z29 h 0).f1 (Hp.g z29 h 0).f2 (Hp.g z29 h 0).f3 else some false) (fun k => ?_) htail
      rw [if_pos (by omega)]
      show (bellmanref15_Ahead.f p.f0 p.f1 p.f2 p.f3 (Hp.g z29 h 0).f0 (Hp.g z29 h 0).f1 (Hp.g z29 h 0).f2 (Hp.g z29 h 0).f3).bind _ = _
      rw [ahead_f, hp hi0 _ hg, Option.bind_some, if_pos rfl]
      rfl
    · refine Ev.congr (fun k => if_neg (by omega)) ?_
      exact htail
theorem pure_HeapOrder : bellmanlaw15_HeapOrder.PureU := by
  intro l _ hsz
  rw [sum_ones5] at hsz
  have hl : l.length < 4398046511104 := by omega
  refine Ev.rounds ?_
  unfold bellmanlaw15_HeapOrder.f
  refine Ev.bind lives_ev (Ev.congr (fun k => if_pos rfl) ?_)
  by_cases c : 100 < l.length
  · exact Ev.congr (fun k => if_pos (by omega)) (Ev.now _)
  · refine Ev.congr (fun k => if_neg (by omega)) ?_
    have hm := make_some l hl
    by_cases cn : (l.map (·.f1)).Nodup
    · rw [if_pos cn, if_neg (by omega)] at hm
      simp only [hm, Option.bind_some, if_true]
      have hr := make_right l cn (by omega)
      have hp := (Hp.heapify_both z29 (lt := tm_lt) (l.length / 2) l (by omega)).2
      exact order_loop l (by omega) l.length 0 _ ⟨0, 0, 0, 0⟩ (by omega) hp.length_eq hr (fun t ht => hp.mem_iff.mp ht) (fun h => absurd h (by omega))
    · rw [if_neg cn] at hm
      simp only [hm, Option.bind_some]
      exact Ev.now _
end Go.Proofs.Ytlpbolkbdcgmnaa.XH
namespace Go.Proofs.Ytlpbolkbdcgmnaa.Pure
theorem HeapOrder : XH.bellmanlaw15_HeapOrder.PureU := XH.pure_HeapOrder
end Go.Proofs.Ytlpbolkbdcgmnaa.Pure
