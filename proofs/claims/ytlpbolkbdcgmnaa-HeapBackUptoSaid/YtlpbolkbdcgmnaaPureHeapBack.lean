/- For every list of timers and every timer within the bound: what is pushed and cancelled leaves the heap's timers as they were. -/
import Derived.Test.YtlpbolkbdcgmnaaUHeapBack
import Derived.Test.YtlpbolkbdcgmnaaQHeapG
import Derived.Test.YtlpbolkbdcgmnaaQHeapL
set_option linter.unusedVariables false
set_option linter.unusedSimpArgs false
namespace Go.Proofs.Ytlpbolkbdcgmnaa.XH
open Go.RowKit Go.Proofs.YtlpbolkbdcgmnaaW.PrintWords Go.Proofs.YtlpbolkbdcgmnaaW.PrintLast Go.Proofs.YtlpbolkbdcgmnaaW.PrintMore
theorem back_true (k : Nat) (s l : List S29) (a b c d : Int) : bellmanlaw15_HeapBack.j0 (k + 1) s l true a b c d = some true := by rw [bellmanlaw15_HeapBack.j0, if_pos rfl]
theorem back_false (l : List S29) (x : S29) (h : HRight l) (hx : ∀ y ∈ l, y.f1 ≠ x.f1) (hl : l.length < 4096) :
    Ev (fun k => bellmanlaw15_HeapBack.j0 k (Hp.srt tm_lt l) (Hp.up z29 tm_lt l.length (l ++ [x]) l.length) false x.f0 x.f1 x.f2 x.f3) true := by
  obtain ⟨hr, hp⟩ := push_right h x hx hl
  generalize Hp.up z29 tm_lt l.length (l ++ [x]) l.length = P at hr hp
  obtain ⟨i, hi, hf, he⟩ : ∃ i, ∃ h : i < P.length, hp_find x.f1 P = (i : Int) ∧ P[i].f1 = x.f1 := by
    rcases find_spec x.f1 P with ⟨_, h2⟩ | h2
    · exact absurd rfl (h2 x (hp.mem_iff.mpr List.mem_cons_self))
    · exact h2
  have hgx : Hp.g z29 P i = x := by
    rw [hpg_at P i hi]
    rcases List.mem_cons.mp (hp.mem_iff.mp (List.getElem_mem hi)) with h | h
    · exact h
    · exact absurd he (hx _ h)
  obtain ⟨t1, t2, t3⟩ := take_right hr i hi
  rw [hgx] at t2
  have tp : (Hp.take_ z29 tm_lt P i).Perm l := (t2.symm.trans hp).cons_inv
  have hc := cancel_ev P hr x.f1 i hf
  rw [hgx] at hc
  have hs : Hp.srt tm_lt (Hp.take_ z29 tm_lt P i) = Hp.srt tm_lt l := Hp.srt_eq tm_swo h.apart tp
  have hso := sorted_ev (Hp.take_ z29 tm_lt P i) t1.fit
  rw [hsorted_yes (hchk_yes t1), hs] at hso
  have hfit : (Hp.srt tm_lt l).length < 4398046511104 := by rw [(Hp.srt_perm l).length_eq]; exact h.fit
  refine Ev.step (fun k => by rw [bellmanlaw15_HeapBack.j0, if_neg (by decide)]) (Ev.bind hc (Ev.bind hso (Ev.congr (fun k => if_pos rfl) (Ev.congr (fun k => if_pos ?_) (Ev.congr (fun k => if_pos rfl) (Ev.bind (same_refl (Hp.srt tm_lt l) hfit) (Ev.congr (fun k => if_pos rfl) (Ev.bind (check_ev P hr.fit) (Ev.congr (fun k => if_pos (hchk_yes hr)) (Ev.bind (check_ev _ t1.fit) ?_))))))))))
  · simp [heap_three]
  · rw [hchk_yes t1]
    exact Ev.now _
theorem pure_HeapBack : bellmanlaw15_HeapBack.PureU := by
  intro l x _ _ hsz
  rw [sum_ones5] at hsz
  have hl : l.length < 4398046511104 := by omega
  refine Ev.rounds ?_
  unfold bellmanlaw15_HeapBack.f
  refine Ev.bind lives_ev (Ev.congr (fun k => if_pos rfl) (Ev.bind (sorted_ev l hl) ?_))
  by_cases c : HRight l
  · refine Ev.bind (push_ev l c x) ?_
    rw [hsorted_yes (hchk_yes c)]
    refine Ev.congr (fun k => if_pos rfl) ?_
    by_cases cf : 0 ≤ hp_find x.f1 l
    · rw [if_pos cf, if_pos cf]
      exact Ev.step (f := fun _ => some true) (fun k => back_true k _ _ _ _ _ _) (Ev.now _)
    · rw [if_neg cf, if_neg cf]
      by_cases cl : l.length = 4096
      · rw [if_pos cl, if_pos cl]
        exact Ev.step (f := fun _ => some true) (fun k => back_true k _ _ _ _ _ _) (Ev.now _)
      · rw [if_neg cl, if_neg cl]
        have hx : ∀ y ∈ l, y.f1 ≠ x.f1 := by
          rcases find_spec x.f1 l with ⟨_, h2⟩ | ⟨i, _, h2, _⟩
          · exact h2
          · omega
        exact back_false l x c hx (by have := c.few; omega)
  · refine Ev.bind (push_wrong l hl c x) ?_
    have h2 : hchk l = 2 := hchk_no c
    rw [hsorted_no (by rw [h2]; decide)]
    refine Ev.congr (fun k => if_neg (by decide)) ?_
    exact Ev.step (f := fun _ => some true) (fun k => back_true k _ _ _ _ _ _) (Ev.now _)
end Go.Proofs.Ytlpbolkbdcgmnaa.XH
namespace Go.Proofs.Ytlpbolkbdcgmnaa.Pure
theorem HeapBack : XH.bellmanlaw15_HeapBack.PureU := XH.pure_HeapBack
end Go.Proofs.Ytlpbolkbdcgmnaa.Pure
