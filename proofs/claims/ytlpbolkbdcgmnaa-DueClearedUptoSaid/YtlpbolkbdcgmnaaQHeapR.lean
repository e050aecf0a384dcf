-- by a program of this session
import Derived.Test.YtlpbolkbdcgmnaaQHeapF
import Derived.Test.YtlpbolkbdcgmnaaXD14
import Derived.Test.YtlpbolkbdcgmnaaXD11
import Derived.Test.YtlpbolkbdcgmnaaXD7
import Derived.Test.YtlpbolkbdcgmnaaXD9
import Derived.Test.YtlpbolkbdcgmnaaXD10
set_option linter.unusedVariables false
set_option linter.unusedSimpArgs false
/-! Heaps: what the definition answers, plain. -/
namespace Go.Proofs.Ytlpbolkbdcgmnaa.XD
open Go.RowKit Go.Proofs.YtlpbolkbdcgmnaaW.PrintWords Go.Proofs.YtlpbolkbdcgmnaaW.PrintLast Go.Proofs.YtlpbolkbdcgmnaaW.PrintMore
theorem wrap_succ (i : Nat) (h : i ≤ 4611686018427387904) : wrap64 ((i : Int) + 1) = ((i + 1 : Nat) : Int) := by unfold wrap64; omega
theorem nodup_take_succ (l : List S29) (i : Nat) (h : i < l.length) (hn : ((l.take i).map (·.f1)).Nodup) (hne : ∀ j (hj : j < l.length), j < i → l[j].f1 ≠ l[i].f1) : ((l.take (i + 1)).map (·.f1)).Nodup := by
  rw [List.take_succ_eq_append_getElem h, List.map_append, List.nodup_append]
  refine ⟨hn, List.nodup_cons.mpr ⟨by simp, List.nodup_nil⟩, ?_⟩
  intro a ha b hb
  simp only [List.map_cons, List.map_nil, List.mem_singleton] at hb
  subst hb
  obtain ⟨x, hx, rfl⟩ := List.mem_map.mp ha
  obtain ⟨j, hj, rfl⟩ := List.getElem_of_mem hx
  rw [List.length_take] at hj
  rw [List.getElem_take]
  exact hne j (by omega) (by omega)
theorem not_nodup (l : List S29) (i j : Nat) (hi : i < l.length) (hj : j < i) (h : l[j].f1 = l[i].f1) : ¬ (l.map (·.f1)).Nodup := by
  intro hn
  rw [List.Nodup, List.pairwise_iff_getElem] at hn
  have := hn j i (by simp; omega) (by simpa using hi) hj
  simp only [List.getElem_map] at this
  exact this h
theorem twice_ev (l : List S29) (hl : l.length < 4398046511104) : Ev (fun k => bellmanref15_twice.f k l) (!decide (l.map (·.f1)).Nodup) := by
  have main : ∀ (d i : Nat), l.length ≤ i + d → i ≤ l.length → ((l.take i).map (·.f1)).Nodup → Ev (fun k => bellmanref15_twice.l0 k l (l.length : Int) (i : Int)) (!decide (l.map (·.f1)).Nodup) := by
    intro d
    induction d with
    | zero =>
      intro i hd hi hn
      obtain rfl : i = l.length := by omega
      rw [List.take_length] at hn
      rw [decide_eq_true hn]
      refine Ev.step (f := fun _ => some false) (fun k => ?_) (Ev.now _)
      simp only [bellmanref15_twice.l0]
      rw [if_neg (by omega)]
    | succ d ih =>
      intro i hd hi hn
      by_cases c : i < l.length
      · have inner : ∀ (e j : Nat), i ≤ j + e → j ≤ i → (∀ q (hq : q < l.length), q < j → l[q].f1 ≠ l[i].f1) → Ev (fun k => bellmanref15_twice.l1 k l (i : Int) (j : Int) (l.length : Int) (i : Int)) (!decide (l.map (·.f1)).Nodup) := by
          intro e
          induction e with
          | zero =>
            intro j he hj hne
            obtain rfl : j = i := by omega
            refine Ev.step (f := fun k => bellmanref15_twice.l0 k l (l.length : Int) ((j + 1 : Nat) : Int)) (fun k => ?_) (ih (j + 1) (by omega) (by omega) (nodup_take_succ l j c hn hne))
            simp only [bellmanref15_twice.l1]
            rw [if_neg (by omega), wrap_succ j (by omega)]
          | succ e ih2 =>
            intro j he hj hne
            by_cases cj : j < i
            · by_cases ce : l[j].f1 = l[i].f1
              · rw [decide_eq_false (not_nodup l i j c cj ce)]
                refine Ev.step (f := fun _ => some true) (fun k => ?_) (Ev.now _)
                simp only [bellmanref15_twice.l1]
                rw [if_pos (by omega), if_pos (by omega), if_pos (by omega), if_pos (by omega), if_pos (by omega), rd_at l j (by omega), rd_at l i c, if_pos ce]
              · refine Ev.step (f := fun k => bellmanref15_twice.l1 k l (i : Int) ((j + 1 : Nat) : Int) (l.length : Int) (i : Int)) (fun k => ?_) (ih2 (j + 1) (by omega) (by omega) (fun q hq hqj => by
                  rcases Nat.lt_or_ge q j with c2 | c2
                  · exact hne q hq c2
                  · obtain rfl : q = j := by omega
                    exact ce))
                simp only [bellmanref15_twice.l1]
                rw [if_pos (by omega), if_pos (by omega), if_pos (by omega), if_pos (by omega), if_pos (by omega), rd_at l j (by omega), rd_at l i c, if_neg ce, wrap_succ j (by omega)]
            · obtain rfl : j = i := by omega
              refine Ev.step (f := fun k => bellmanref15_twice.l0 k l (l.length : Int) ((j + 1 : Nat) : Int)) (fun k => ?_) (ih (j + 1) (by omega) (by omega) (nodup_take_succ l j c hn hne))
              simp only [bellmanref15_twice.l1]
              rw [if_neg (by omega), wrap_succ j (by omega)]
        refine Ev.step (f := fun k => bellmanref15_twice.l1 k l (i : Int) ((0 : Nat) : Int) (l.length : Int) (i : Int)) (fun k => ?_) (inner i 0 (by omega) (by omega) (fun q _ h => by omega))
        simp only [bellmanref15_twice.l0]
        rw [if_pos (by omega)]
        rfl
      · exact ih i (by omega) hi hn
  exact main l.length 0 (by omega) (by omega) (by simp)
theorem ahead_f (a b : S29) : bellmanref15_Ahead.f a.f0 a.f1 a.f2 a.f3 b.f0 b.f1 b.f2 b.f3 = some (tm_lt a b) := by
  unfold bellmanref15_Ahead.f tm_lt
  by_cases h1 : a.f0 < b.f0
  · rw [if_pos h1]; simp [h1]
  · rw [if_neg h1]
    by_cases h2 : a.f0 = b.f0
    · rw [if_pos h2]; simp [h2]
    · rw [if_neg h2]; simp [h1, h2]
theorem rcheck_loop (l : List S29) (hl : l.length ≤ 4096) : ∀ (d i : Nat), l.length ≤ i + d → i ≤ l.length → (∀ j, 0 < j → j < i → j < l.length → Hp.edge z29 tm_lt l j) →
    ∃ r : Int, Ev (fun k => bellmanref15_Check.l0 k l (l.length : Int) (i : Int)) r ∧ (r = 0 ∧ Hp.HeapFrom z29 tm_lt 0 l ∨ r = 2 ∧ ¬ Hp.HeapFrom z29 tm_lt 0 l)
  | d, i, hd, hi, hbe => by
    by_cases c : i < l.length
    · obtain ⟨d', rfl⟩ : ∃ d', d = d' + 1 := ⟨d - 1, by omega⟩
      by_cases h0 : 0 < i
      · have hp : (i - 1) / 2 < l.length := by omega
        have hst : ∀ k, bellmanref15_Check.l0 (k + 1) l (l.length : Int) (i : Int) = if tm_lt l[i] l[(i - 1) / 2] = true then some 2 else bellmanref15_Check.l0 k l (l.length : Int) ((i + 1 : Nat) : Int) := fun k => by
          simp only [bellmanref15_Check.l0]
          rw [if_pos (by omega), if_pos (by omega), if_pos (by omega), if_pos (by omega), par_int i h0 (by omega), if_pos (by omega), if_pos (by omega), rd_at l i c, rd_at l _ hp, ahead_f, wrap_succ i (by omega)]
          rfl
        by_cases cl : tm_lt l[i] l[(i - 1) / 2] = true
        · refine ⟨2, Ev.step hst ?_, .inr ⟨rfl, fun hh => ?_⟩⟩
          · simp only [if_pos cl]; exact Ev.now _
          · have h2 := hh i h0 c (Nat.zero_le _)
            unfold Hp.edge at h2
            rw [hpg_at l i c, hpg_at l _ hp, cl] at h2
            cases h2
        · obtain ⟨r, he, hr⟩ := rcheck_loop l hl d' (i + 1) (by omega) (by omega) (fun j j0 j1 j2 => by
            rcases Nat.lt_or_ge j i with c2 | c2
            · exact hbe j j0 c2 j2
            · obtain rfl : j = i := by omega
              unfold Hp.edge
              rw [hpg_at l j c, hpg_at l _ hp]
              simpa using cl)
          exact ⟨r, Ev.step hst (by simp only [if_neg cl]; exact he), hr⟩
      · obtain rfl : i = 0 := by omega
        obtain ⟨r, he, hr⟩ := rcheck_loop l hl d' 1 (by omega) (by omega) (fun j j0 j1 j2 => by omega)
        refine ⟨r, Ev.step (f := fun k => bellmanref15_Check.l0 k l (l.length : Int) ((1 : Nat) : Int)) (fun k => ?_) he, hr⟩
        simp only [bellmanref15_Check.l0]
        rw [if_pos (by omega), if_neg (by omega), wrap_succ 0 (by omega)]
    · refine ⟨0, Ev.step (f := fun _ => some 0) (fun k => ?_) (Ev.now _), .inl ⟨rfl, fun j j0 j1 _ => hbe j j0 (by omega) j1⟩⟩
      simp only [bellmanref15_Check.l0]
      rw [if_neg (by omega)]
theorem rcheck_ev (l : List S29) (hl : l.length < 4398046511104) : Ev (fun k => bellmanref15_Check.f k l) (hchk l) := by
  unfold bellmanref15_Check.f
  by_cases c : 4096 < l.length
  · rw [hchk_no (fun h => by have := h.few; omega)]
    refine Ev.congr (f := fun k => bellmanref15_Check.j0 k l true) (fun k => if_pos (by omega)) (Ev.step (f := fun _ => some 2) (fun k => ?_) (Ev.now _))
    simp only [bellmanref15_Check.j0, if_true]
  · refine Ev.congr (f := fun k => (bellmanref15_twice.f k l).bind fun t => (bellmanref15_Check.j0 k l t)) (fun k => if_neg (by omega)) (Ev.bind (twice_ev l hl) ?_)
    by_cases cn : (l.map (·.f1)).Nodup
    · rw [decide_eq_true cn]
      obtain ⟨r, he, hr⟩ := rcheck_loop l (by omega) l.length 0 (by omega) (by omega) (fun j j0 j1 _ => by omega)
      have hc : hchk l = r := by
        rcases hr with ⟨rfl, hh⟩ | ⟨rfl, hh⟩
        · exact hchk_yes ⟨by omega, cn, hh⟩
        · exact hchk_no (fun h => hh h.heap)
      rw [hc]
      refine Ev.step (f := fun k => bellmanref15_Check.l0 k l (l.length : Int) ((0 : Nat) : Int)) (fun k => ?_) he
      simp [bellmanref15_Check.j0]
    · rw [decide_eq_false cn, hchk_no (fun h => cn h.once)]
      refine Ev.step (f := fun _ => some 2) (fun k => ?_) (Ev.now _)
      simp [bellmanref15_Check.j0]
theorem sort_some (l : List S29) (hl : l.length < 4398046511104) : bellmanref15_Sort.f l = some (Hp.srt tm_lt l) := by unfold bellmanref15_Sort.f; rw [if_pos hl]
theorem rsorted_ev (l : List S29) (hl : l.length < 4398046511104) : Ev (fun k => bellmanref15_Sorted.f k l) (hsorted l) := by
  unfold bellmanref15_Sorted.f
  refine Ev.bind (rcheck_ev l hl) ?_
  by_cases c : hchk l = 0
  · rw [hsorted_yes c]
    refine Ev.congr (f := fun _ => some (Hp.srt tm_lt l, 0)) (fun k => ?_) (Ev.now _)
    simp only [if_pos c]
    rw [sort_some l hl]; rfl
  · rw [hsorted_no c]
    refine Ev.congr (f := fun _ => some ([], 2)) (fun k => ?_) (Ev.now _)
    simp only [if_neg c]
theorem same_refl (a : List S29) (hl : a.length < 4398046511104) : Ev (fun k => bellmanref15_Same.f k a a) true := by
  have main : ∀ (d i : Nat), a.length ≤ i + d → i ≤ a.length → Ev (fun k => bellmanref15_Same.l0 k a a (a.length : Int) (i : Int)) true := by
    intro d
    induction d with
    | zero =>
      intro i hd hi
      refine Ev.step (f := fun _ => some true) (fun k => ?_) (Ev.now _)
      simp only [bellmanref15_Same.l0]
      rw [if_neg (by omega)]
    | succ d ih =>
      intro i hd hi
      by_cases c : i < a.length
      · refine Ev.step (f := fun k => bellmanref15_Same.l0 k a a (a.length : Int) ((i + 1 : Nat) : Int)) (fun k => ?_) (ih (i + 1) (by omega) (by omega))
        simp only [bellmanref15_Same.l0]
        rw [if_pos (by omega), if_pos (by omega), if_pos (by omega), if_pos (by omega), wrap_succ i (by omega), if_neg (by simp)]
      · exact ih i (by omega) hi
  refine Ev.congr (f := fun k => bellmanref15_Same.l0 k a a (a.length : Int) ((0 : Nat) : Int)) (fun k => ?_) (main a.length 0 (by omega) (by omega))
  unfold bellmanref15_Same.f
  rw [if_pos rfl]
  rfl
theorem is_ev (h : List S29) (hr : HRight h) : Ev (fun k => bellmanref15_Is.f k h (Hp.srt tm_lt h)) true := by
  have hl : h.length < 4398046511104 := by have := hr.few; omega
  unfold bellmanref15_Is.f
  refine Ev.bind (rcheck_ev h hl) ?_
  refine Ev.congr (f := fun k => (bellmanref15_Same.f k (Hp.srt tm_lt h) (Hp.srt tm_lt h)).bind fun t => some t) (fun k => ?_) (Ev.bind (same_refl _ (by rw [(Hp.srt_perm h).length_eq]; exact hl)) (Ev.now _))
  simp only [if_pos (hchk_yes hr)]
  rw [sort_some h hl]; rfl
end Go.Proofs.Ytlpbolkbdcgmnaa.XD
