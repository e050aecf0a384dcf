/- For every two lists of timers within the bound: the heap that is made is right where the definition's is, and the sorted one is the definition's. -/
import Derived.Test.YtlpbolkbdcgmnaaUHeapMakes
import Derived.Test.YtlpbolkbdcgmnaaQHeapG
import Derived.Test.YtlpbolkbdcgmnaaQHeapL
set_option linter.unusedVariables false
set_option linter.unusedSimpArgs false
namespace Go.Proofs.Ytlpbolkbdcgmnaa.XH
open Go.RowKit Go.Proofs.YtlpbolkbdcgmnaaW.PrintWords Go.Proofs.YtlpbolkbdcgmnaaW.PrintLast Go.Proofs.YtlpbolkbdcgmnaaW.PrintMore
theorem make_is (l : List S29) (hl : l.length < 4398046511104) : ∃ hm, heap_Make.f l = some hm ∧ Ev (fun k => bellmanref15_Is.f k hm.1 (rmake l).1) true ∧ hm.2 = (rmake l).2 := by
  have hm := make_some l hl
  unfold rmake
  by_cases cn : (l.map (·.f1)).Nodup
  · rw [if_pos cn] at hm ⊢
    by_cases c : 4096 < l.length
    · rw [if_pos c] at hm ⊢
      exact ⟨_, hm, is_ev [] right_nil, rfl⟩
    · rw [if_neg c] at hm ⊢
      refine ⟨_, hm, ?_, rfl⟩
      have hr := make_right l cn (by omega)
      have h := is_ev _ hr
      rw [Hp.srt_eq tm_swo (tm_apart cn) (Hp.heapify_both z29 (lt := tm_lt) (l.length / 2) l (by omega)).2] at h
      exact h
  · rw [if_neg cn] at hm ⊢
    exact ⟨_, hm, is_ev [] right_nil, rfl⟩
theorem small_some (l : List S29) : ∃ b, bellmanlaw15_small.f l = some b := by
  unfold bellmanlaw15_small.f
  split
  · exact ⟨_, rfl⟩
  · split <;> exact ⟨_, rfl⟩
theorem sorted_len (l : List S29) (hl : l.length < 4398046511104) : (hsorted l).1.length < 4398046511104 := by
  unfold hsorted
  split
  · rw [(Hp.srt_perm l).length_eq]; exact hl
  · exact (by decide : 0 < 4398046511104)
theorem pure_HeapMakes : bellmanlaw15_HeapMakes.PureU := by
  intro a b _ _ hsz
  rw [sum_ones5, sum_ones5] at hsz
  have ha : a.length < 4398046511104 := by omega
  have hb : b.length < 4398046511104 := by omega
  refine Ev.rounds ?_
  have hj : ∀ s : Bool, Ev (fun k => bellmanlaw15_HeapMakes.j0 k a b s) true := by
    intro s
    cases s with
    | true =>
      refine Ev.step (f := fun k => (bellmanlaw15_lives.f k).bind fun t => some t) (fun k => ?_) (Ev.bind lives_ev (Ev.now _))
      simp only [bellmanlaw15_HeapMakes.j0, if_true]
    | false =>
      obtain ⟨hm, h1, h2, h3⟩ := make_is a ha
      refine Ev.step (fun k => by rw [bellmanlaw15_HeapMakes.j0, if_neg (by decide), h1, Option.bind_some]) ?_
      refine Ev.bind (rmake_ev a ha) (Ev.bind (sorted_ev b hb) (Ev.bind (rsorted_ev b hb) (Ev.bind lives_ev (Ev.congr (fun k => if_pos rfl) (Ev.bind h2 (Ev.congr (fun k => if_pos rfl) (Ev.congr (fun k => if_pos h3) (Ev.bind (same_refl _ (sorted_len b hb)) (Ev.congr (fun k => if_pos rfl) ?_)))))))))
      rw [beq_self_eq_true]
      exact Ev.now _
  obtain ⟨s, hs⟩ := small_some a
  obtain ⟨t, ht⟩ := small_some b
  unfold bellmanlaw15_HeapMakes.f
  simp only [hs, ht, Option.bind_some]
  cases s with
  | true => simp only [if_true]; exact hj _
  | false => exact Ev.congr (fun k => if_neg (by decide)) (hj _)
end Go.Proofs.Ytlpbolkbdcgmnaa.XH
namespace Go.Proofs.Ytlpbolkbdcgmnaa.Pure
theorem HeapMakes : XH.bellmanlaw15_HeapMakes.PureU := XH.pure_HeapMakes
end Go.Proofs.Ytlpbolkbdcgmnaa.Pure
