-- by a program of this session
import Derived.Test.YtlpbolkbdcgmnaaQHeapF
import Derived.Test.YtlpbolkbdcgmnaaXD6
set_option linter.unusedVariables false
set_option linter.unusedSimpArgs false
/-! Timers that come due: what is drained of a right heap, plain. -/
namespace Go.Proofs.Ytlpbolkbdcgmnaa.XD
open Go.RowKit Go.Proofs.YtlpbolkbdcgmnaaW.PrintWords Go.Proofs.YtlpbolkbdcgmnaaW.PrintLast Go.Proofs.YtlpbolkbdcgmnaaW.PrintMore
theorem pops_spec (now : Int) : ∀ (n : Nat) (h : List S29), h.length = n → HRight h → HRight (du_pops now h.length h).2 ∧ ((du_pops now h.length h).1 ++ (du_pops now h.length h).2).Perm h ∧ Hp.Up tm_lt (du_pops now h.length h).1 ∧ (∀ x ∈ (du_pops now h.length h).1, x.f0 ≤ now) ∧ ∀ x ∈ (du_pops now h.length h).2, now < x.f0 := by
  intro n
  induction n with
  | zero =>
    intro h hl hr
    rw [du_pops_stop now h (fun c => by omega)]
    exact ⟨hr, List.Perm.refl _, List.Pairwise.nil, fun x hx => absurd hx (by simp), fun x hx => by rw [List.eq_nil_of_length_eq_zero hl] at hx; exact absurd hx (by simp)⟩
  | succ n ih =>
    intro h hl hr
    have h0 : 0 < h.length := by omega
    by_cases c : (Hp.g z29 h 0).f0 ≤ now
    · obtain ⟨t1, t2, t3⟩ := take_right hr 0 h0
      obtain ⟨i1, i2, i3, i4, i5⟩ := ih (Hp.take_ z29 tm_lt h 0) (by omega) t1
      rw [du_pops_go now h h0 c]
      refine ⟨i1, (i2.cons _).trans t2.symm, ?_, ?_, i5⟩
      · refine List.pairwise_cons.mpr ⟨fun y hy => ?_, i3⟩
        exact Hp.Swo.asym tm_swo (take_ahead hr h0 y (i2.mem_iff.mp (List.mem_append_left _ hy)))
      · intro x hx
        rcases List.mem_cons.mp hx with rfl | hx
        · exact c
        · exact i4 x hx
    · rw [du_pops_stop now h (fun c2 => c c2.2)]
      refine ⟨hr, List.Perm.refl _, List.Pairwise.nil, fun x hx => absurd hx (by simp), fun x hx => ?_⟩
      obtain ⟨j, hj, rfl⟩ := List.getElem_of_mem hx
      have h1 := Hp.root z29 tm_swo h hr.heap j hj
      rw [hpg_at h j hj] at h1
      unfold tm_lt at h1
      have h2 : ¬ h[j].f0 < (Hp.g z29 h 0).f0 := fun h3 => (of_decide_eq_false h1) (.inl h3)
      exact Int.lt_of_lt_of_le (Int.not_le.mp c) (Int.not_lt.mp h2)
theorem filter_srt (p : S29 → Bool) {l k : List S29} (h : Hp.Apart tm_lt l) (hk : Hp.Up tm_lt k) (hp : k.Perm (l.filter p)) : (Hp.srt tm_lt l).filter p = k := by
  have hs : (Hp.srt tm_lt l).filter p |>.Perm k := ((Hp.srt_perm l).filter p).trans hp.symm
  refine Hp.up_eq (fun a ha b hb => h a ?_ b ?_) hk (List.Pairwise.filter p (Hp.srt_up tm_swo l)) hs
  · exact (List.mem_filter.mp (hp.mem_iff.mp ha)).1
  · exact (List.mem_filter.mp (hp.mem_iff.mp hb)).1
def due_by (now : Int) (x : S29) : Bool := decide (x.f0 ≤ now)
theorem pops_due (now : Int) (h : List S29) (hr : HRight h) : (du_pops now h.length h).1 = (Hp.srt tm_lt h).filter (due_by now) := by
  obtain ⟨_, i2, i3, i4, i5⟩ := pops_spec now h.length h rfl hr
  refine (filter_srt (due_by now) hr.apart i3 ?_).symm
  refine List.Perm.trans ?_ (i2.filter _)
  rw [List.filter_append, List.filter_eq_self.mpr (show ∀ x ∈ (du_pops now h.length h).1, due_by now x = true from fun x hx => decide_eq_true (i4 x hx)), List.filter_eq_nil_iff.mpr (fun x hx => by have := i5 x hx; unfold due_by; simp; omega), List.append_nil]
theorem pops_left (now : Int) (h : List S29) (hr : HRight h) : Hp.srt tm_lt (du_pops now h.length h).2 = (Hp.srt tm_lt h).filter (fun x => !due_by now x) := by
  obtain ⟨_, i2, _, i4, i5⟩ := pops_spec now h.length h rfl hr
  refine (filter_srt (fun x => !due_by now x) hr.apart (Hp.srt_up tm_swo _) ?_).symm
  refine (Hp.srt_perm _).trans (List.Perm.trans ?_ (i2.filter _))
  rw [List.filter_append, List.filter_eq_nil_iff.mpr (fun x hx => by have := i4 x hx; unfold due_by; simp; omega), List.nil_append, List.filter_eq_self.mpr (fun x hx => by have := i5 x hx; unfold due_by; simp; omega)]
/-- The root comes first. -/
theorem srt_root (h : List S29) (hr : HRight h) (h0 : 0 < h.length) : Hp.srt tm_lt h = Hp.g z29 h 0 :: Hp.srt tm_lt (Hp.take_ z29 tm_lt h 0) := by
  obtain ⟨t1, t2, t3⟩ := take_right hr 0 h0
  refine Hp.srt_of tm_swo hr.apart (((Hp.srt_perm _).cons _).trans t2.symm) ?_
  refine List.pairwise_cons.mpr ⟨fun y hy => ?_, Hp.srt_up tm_swo _⟩
  exact Hp.Swo.asym tm_swo (take_ahead hr h0 y ((Hp.srt_perm _).mem_iff.mp hy))
theorem drain_yes (now : Int) (l : List S29) (h : HRight l) : Ev (fun k => due_Drain.f k l now) ((du_pops now l.length l).2, (du_pops now l.length l).1, 0) := by
  unfold due_Drain.f heap_fit
  refine Ev.congr (fun k => if_pos h.fit) (Ev.bind (check_ev l h.fit) ?_)
  rw [hchk_yes h]
  exact Ev.now _
theorem drain_no (now : Int) (l : List S29) (hl : l.length < 4398046511104) (h : ¬ HRight l) : Ev (fun k => due_Drain.f k l now) ([], [], 2) := by
  unfold due_Drain.f heap_fit
  refine Ev.congr (fun k => if_pos hl) (Ev.bind (check_ev l hl) ?_)
  rw [hchk_no h]
  exact Ev.now _
theorem up_strict {l : List S29} (hn : (l.map (·.f1)).Nodup) (hu : Hp.Up tm_lt l) (i : Nat) (hi : i + 1 < l.length) : tm_lt l[i] l[i + 1] = true := by
  have h1 : tm_lt l[i + 1] l[i] = false := by
    unfold Hp.Up at hu
    rw [List.pairwise_iff_getElem] at hu
    exact hu i (i + 1) (by omega) hi (by omega)
  by_cases c : tm_lt l[i] l[i + 1] = true
  · exact c
  · have h2 := tm_apart hn _ (List.getElem_mem hi) _ (List.getElem_mem (by omega : i < l.length)) h1 (by simpa using c)
    rw [List.Nodup, List.pairwise_iff_getElem] at hn
    have h3 := hn i (i + 1) (by simp; omega) (by simpa using hi) (by omega)
    simp only [List.getElem_map] at h3
    exact absurd (congrArg (·.f1) h2).symm h3
theorem fits_i64 {n : Int} (h : (Lit.int .i64 n).wf = true) : -9223372036854775808 ≤ n ∧ n ≤ 9223372036854775807 := by
  simp [Lit.wf, IntKind.min, IntKind.max, IntKind.signed, IntKind.bits] at h
  omega
end Go.Proofs.Ytlpbolkbdcgmnaa.XD
