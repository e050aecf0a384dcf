/- For every list of timers and every two times within the bound: what is drained up to a time, and then up to a later one, is what is drained up to that at once; what is left is the same. -/
import Derived.Test.YtlpbolkbdcgmnaaUDuePieces
import Derived.Test.YtlpbolkbdcgmnaaQDueF
set_option linter.unusedVariables false
set_option linter.unusedSimpArgs false
namespace Go.Proofs.Ytlpbolkbdcgmnaa.XD
open Go.RowKit Go.Proofs.YtlpbolkbdcgmnaaW.PrintWords Go.Proofs.YtlpbolkbdcgmnaaW.PrintLast Go.Proofs.YtlpbolkbdcgmnaaW.PrintMore
theorem due_twice (a b : Int) (hab : a ≤ b) (l : List S29) (hr : HRight l) :
    (Hp.srt tm_lt l).filter (due_by a) ++ ((Hp.srt tm_lt l).filter (fun x => !due_by a x)).filter (due_by b) = (Hp.srt tm_lt l).filter (due_by b) := by
  have hap : Hp.Apart tm_lt ((Hp.srt tm_lt l).filter (due_by b)) := fun x hx y hy => hr.apart x ((Hp.srt_perm l).mem_iff.mp (List.mem_filter.mp hx).1) y ((Hp.srt_perm l).mem_iff.mp (List.mem_filter.mp hy).1)
  have hu := Hp.srt_up tm_swo l
  refine Hp.up_eq hap (List.Pairwise.filter _ hu) ?_ ?_
  · refine List.pairwise_append.mpr ⟨List.Pairwise.filter _ hu, List.Pairwise.filter _ (List.Pairwise.filter _ hu), fun x hx y hy => ?_⟩
    have h1 : x.f0 ≤ a := of_decide_eq_true (List.mem_filter.mp hx).2
    have h2 : ¬ y.f0 ≤ a := by
      have h3 := (List.mem_filter.mp (List.mem_filter.mp hy).1).2
      simp only [Bool.not_eq_true', due_by] at h3
      exact of_decide_eq_false h3
    exact decide_eq_false (fun h => by omega)
  · have h1 := List.filter_append_perm (due_by a) ((Hp.srt tm_lt l).filter (due_by b))
    have h2 : ((Hp.srt tm_lt l).filter (due_by b)).filter (due_by a) = (Hp.srt tm_lt l).filter (due_by a) := by
      rw [List.filter_filter]
      refine List.filter_congr (fun x _ => ?_)
      cases c : due_by a x with
      | false => rfl
      | true => have h3 : x.f0 ≤ a := of_decide_eq_true c
                have h4 : due_by b x = true := decide_eq_true (by omega)
                rw [h4]; rfl
    have h3 : ((Hp.srt tm_lt l).filter (due_by b)).filter (fun x => !due_by a x) = ((Hp.srt tm_lt l).filter (fun x => !due_by a x)).filter (due_by b) := by
      rw [List.filter_filter, List.filter_filter]
      exact List.filter_congr (fun x _ => Bool.and_comm _ _)
    rw [h2, h3] at h1
    exact h1
theorem left_twice (a b : Int) (hab : a ≤ b) (s : List S29) : (s.filter (fun x => !due_by a x)).filter (fun x => !due_by b x) = s.filter (fun x => !due_by b x) := by
  rw [List.filter_filter]
  refine List.filter_congr (fun x _ => ?_)
  cases c : due_by a x with
  | false => simp
  | true =>
    have h3 : x.f0 ≤ a := of_decide_eq_true c
    have h4 : due_by b x = true := decide_eq_true (by omega)
    rw [h4]; rfl
theorem pieces_true (k : Nat) (l : List S29) (a b : Int) : bellmanlaw16_DuePieces.j0 (k + 1) l a b true = some true := by rw [bellmanlaw16_DuePieces.j0, if_pos rfl]
theorem pieces_false (l : List S29) (hl : l.length < 4398046511104) (a b : Int) (hab : a ≤ b) : Ev (fun k => bellmanlaw16_DuePieces.j0 k l a b false) true := by
  by_cases hr : HRight l
  · have hx := (pops_spec a l.length l rfl hr).1
    have hy := (pops_spec b _ _ rfl hx).1
    have hz := (pops_spec b l.length l rfl hr).1
    have hsy := sorted_ev _ hy.fit
    have hsz := sorted_ev _ hz.fit
    rw [hsorted_yes (hchk_yes hy), pops_left b _ hx, pops_left a l hr, left_twice a b hab] at hsy
    rw [hsorted_yes (hchk_yes hz), pops_left b l hr] at hsz
    have hfit : ∀ p : S29 → Bool, ((Hp.srt tm_lt l).filter p).length < 4398046511104 := fun p => Nat.lt_of_le_of_lt (List.length_filter_le _ _) (by rw [(Hp.srt_perm l).length_eq]; exact hl)
    have h1 : (du_pops a l.length l).1.length < 4398046511104 := by rw [pops_due a l hr]; exact hfit _
    refine Ev.step (fun k => by rw [bellmanlaw16_DuePieces.j0, if_neg (by decide)]) (Ev.bind (drain_yes a l hr) (Ev.bind (drain_yes b _ hx) (Ev.bind (drain_yes b l hr) (Ev.congr (fun k => if_pos rfl) (Ev.bind hsy (Ev.bind hsz (Ev.congr (fun k => if_pos rfl) (Ev.congr (fun k => if_pos rfl) ?_))))))))
    simp only [Option.bind_some, List.nil_append, List.length_nil, Nat.zero_add, if_true]
    refine Ev.congr (fun k => if_pos h1) (Ev.congr (fun k => if_pos ?_) (Ev.bind (a := true) ?_ (Ev.congr (fun k => if_pos rfl) (Ev.bind (same_refl _ (hfit _)) (Ev.now _)))))
    · rw [pops_due a l hr, pops_due b _ hx, pops_left a l hr]
      have h2 := congrArg List.length (due_twice a b hab l hr)
      rw [List.length_append] at h2
      rw [h2]
      exact hfit _
    · rw [pops_due a l hr, pops_due b _ hx, pops_left a l hr, pops_due b l hr, due_twice a b hab l hr]
      exact same_refl _ (hfit _)
  · exact Ev.step (fun k => by rw [bellmanlaw16_DuePieces.j0, if_neg (by decide)]) (Ev.bind (drain_no a l hl hr) (Ev.bind (drain_yes b [] right_nil) (Ev.bind (drain_no b l hl hr) (Ev.congr (fun k => if_neg (show ¬ (2 : Int) = 0 by decide)) (Ev.congr (fun k => if_pos rfl) (Ev.now _))))))
theorem pure_DuePieces : bellmanlaw16_DuePieces.PureU := by
  intro l a b _ _ _ hsz
  rw [sum_ones5] at hsz
  have hl : l.length < 4398046511104 := by omega
  refine Ev.rounds ?_
  unfold bellmanlaw16_DuePieces.f
  refine Ev.bind lives16 (Ev.congr (fun k => if_pos rfl) ?_)
  have ht : Ev (fun k => bellmanlaw16_DuePieces.j0 k l a b true) true := Ev.step (f := fun _ => some true) (fun k => pieces_true k l a b) (Ev.now _)
  by_cases c : 200 < l.length
  · exact Ev.congr (fun k => if_pos (by omega)) ht
  · refine Ev.congr (fun k => if_neg (by omega)) ?_
    by_cases hab : a > b
    · rw [decide_eq_true hab]; exact ht
    · rw [decide_eq_false hab]; exact pieces_false l hl a b (by omega)
end Go.Proofs.Ytlpbolkbdcgmnaa.XD
namespace Go.Proofs.Ytlpbolkbdcgmnaa.Pure
theorem DuePieces : XD.bellmanlaw16_DuePieces.PureU := XD.pure_DuePieces
end Go.Proofs.Ytlpbolkbdcgmnaa.Pure
