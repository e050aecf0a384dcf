-- by a program of this session
import Derived.Test.YtlpbolkbdcgmnaaXD5
import Derived.Test.YtlpbolkbdcgmnaaXD12
import Derived.Test.YtlpbolkbdcgmnaaQHeapS
import Derived.Test.YtlpbolkbdcgmnaaXD3
set_option linter.unusedVariables false
set_option linter.unusedSimpArgs false
/-! Heaps: what the program answers, plain. -/
namespace Go.Proofs.Ytlpbolkbdcgmnaa.XD
open Go.RowKit Go.Proofs.YtlpbolkbdcgmnaaW.PrintWords Go.Proofs.YtlpbolkbdcgmnaaW.PrintLast Go.Proofs.YtlpbolkbdcgmnaaW.PrintMore
theorem rd_at (l : List S29) (i : Nat) (h : i < l.length) : rd_T29 l (i : Int) = l[i] := by
  unfold rd_T29
  rw [Int.toNat_natCast, List.getD_eq_getElem?_getD, List.getElem?_eq_getElem h]; rfl
theorem hpg_at (l : List S29) (i : Nat) (h : i < l.length) : Hp.g z29 l i = l[i] := Hp.g_eq _ _ _ h
/-- A right heap. -/
structure HRight (l : List S29) : Prop where
  few : l.length ≤ 4096
  once : (l.map (·.f1)).Nodup
  heap : Hp.HeapFrom z29 tm_lt 0 l
open Classical in
noncomputable def hchk (l : List S29) : Int := if HRight l then 0 else 2
theorem hchk_yes {l : List S29} (h : HRight l) : hchk l = 0 := if_pos h
theorem hchk_no {l : List S29} (h : ¬ HRight l) : hchk l = 2 := if_neg h
theorem hchk_iff (l : List S29) : hchk l = 0 ↔ HRight l := by
  unfold hchk
  constructor
  · intro h
    split at h
    · assumption
    · cases h
  · intro h; exact if_pos h
theorem HRight.perm_once {l k : List S29} (h : HRight l) (p : k.Perm l) : (k.map (·.f1)).Nodup := (p.map _).nodup_iff.mpr h.once
theorem HRight.apart {l : List S29} (h : HRight l) : Hp.Apart tm_lt l := tm_apart h.once
theorem par_int (i : Nat) (h0 : 0 < i) (h : i ≤ 4611686018427387904) : wrap64 (Int.tdiv (wrap64 ((i : Int) - 1)) 2) = (((i - 1) / 2 : Nat) : Int) := by
  have e1 : wrap64 ((i : Int) - 1) = ((i - 1 : Nat) : Int) := by unfold wrap64; omega
  rw [e1]
  have e2 : Int.tdiv ((i - 1 : Nat) : Int) 2 = (((i - 1) / 2 : Nat) : Int) := by
    rw [Int.tdiv_eq_ediv_of_nonneg (by omega)]; omega
  rw [e2]
  unfold wrap64
  omega
theorem check_loop (l : List S29) (hl : l.length ≤ 4096) : ∀ (d i : Nat), 0 < i → l.length ≤ i + d → i ≤ l.length ∨ i = 1 → (∀ j, 0 < j → j < i → j < l.length → Hp.edge z29 tm_lt l j) →
    ∃ r : Int, Ev (fun k => heap_Check.l0 k l (i : Int)) r ∧ (r = 0 ∧ Hp.HeapFrom z29 tm_lt 0 l ∨ r = 2 ∧ ¬ Hp.HeapFrom z29 tm_lt 0 l)
  | d, i, h0, hd, hi, hbe => by
    by_cases c : i < l.length
    · have hp : (i - 1) / 2 < l.length := by omega
      have hod : Ev (fun k => heap_order.f k l[i].f0 l[i].f1 l[i].f2 l[i].f3 l[(i - 1) / 2].f0 l[(i - 1) / 2].f1 l[(i - 1) / 2].f2 l[(i - 1) / 2].f3) (tm_cf l[i] l[(i - 1) / 2]) := Ev.of (fun k => heap_order.mono _ _ _ _ _ _ _ _ k) (tm_order_f _ _)
      have hst : ∀ k, heap_Check.l0 (k + 1) l (i : Int) = (heap_order.f k l[i].f0 l[i].f1 l[i].f2 l[i].f3 l[(i - 1) / 2].f0 l[(i - 1) / 2].f1 l[(i - 1) / 2].f2 l[(i - 1) / 2].f3).bind fun t => if t < 0 then some 2 else heap_Check.l0 k l ((i + 1 : Nat) : Int) := fun k => by
        have e3 : wrap64 ((i : Int) + 1) = ((i + 1 : Nat) : Int) := by unfold wrap64; omega
        simp only [heap_Check.l0]
        rw [if_pos (by omega), if_pos (by omega), par_int i h0 (by omega), if_pos (by omega), if_pos (by omega), rd_at l i c, rd_at l _ hp, e3]
      by_cases cl : tm_cf l[i] l[(i - 1) / 2] < 0
      · refine ⟨2, Ev.step hst (Ev.bind hod ?_), .inr ⟨rfl, fun hh => ?_⟩⟩
        · simp only [if_pos cl]; exact Ev.now _
        · have h2 := hh i h0 c (Nat.zero_le _)
          unfold Hp.edge at h2
          rw [hpg_at l i c, hpg_at l _ hp, ← tm_cf_lt] at h2
          exact absurd cl (of_decide_eq_false h2)
      · obtain ⟨d', rfl⟩ : ∃ d', d = d' + 1 := ⟨d - 1, by omega⟩
        obtain ⟨r, he, hr⟩ := check_loop l hl d' (i + 1) (by omega) (by omega) (.inl (by omega)) (fun j j0 j1 j2 => by
          rcases Nat.lt_or_ge j i with c2 | c2
          · exact hbe j j0 c2 j2
          · obtain rfl : j = i := by omega
            unfold Hp.edge
            rw [hpg_at l j c, hpg_at l _ hp, ← tm_cf_lt]
            exact decide_eq_false cl)
        exact ⟨r, Ev.step hst (Ev.bind hod (by simp only [if_neg cl]; exact he)), hr⟩
    · refine ⟨0, Ev.step (f := fun _ => some 0) (fun k => ?_) (Ev.now _), .inl ⟨rfl, fun j j0 j1 _ => hbe j j0 (by omega) j1⟩⟩
      simp only [heap_Check.l0]
      rw [if_neg (by omega)]
theorem check_ev (l : List S29) (hl : l.length < 4398046511104) : Ev (fun k => heap_Check.f k l) (hchk l) := by
  unfold heap_Check.f
  by_cases c : 4096 < l.length
  · have hn : hchk l = 2 := hchk_no (fun h => by have := h.few; omega)
    rw [hn]
    refine Ev.congr (f := fun k => heap_Check.j0 k l true) (fun k => if_pos (by omega)) (Ev.step (f := fun _ => some 2) (fun k => ?_) (Ev.now _))
    simp only [heap_Check.j0, if_true]
  · refine Ev.congr (f := fun k => (heap_unique.f l).bind fun t126 => (heap_Check.j0 k l (!t126))) (fun k => if_neg (by omega)) ?_
    have hu : heap_unique.f l = some (decide (l.map (·.f1)).Nodup) := by unfold heap_unique.f; rw [if_pos hl]
    refine Ev.congr (f := fun k => heap_Check.j0 k l (!decide (l.map (·.f1)).Nodup)) (fun k => by rw [hu]; rfl) ?_
    by_cases cn : (l.map (·.f1)).Nodup
    · rw [decide_eq_true cn]
      obtain ⟨r, he, hr⟩ := check_loop l (by omega) l.length 1 (by omega) (by omega) (.inr rfl) (fun j j0 j1 _ => by omega)
      have hc : hchk l = r := by
        rcases hr with ⟨rfl, hh⟩ | ⟨rfl, hh⟩
        · exact hchk_yes ⟨by omega, cn, hh⟩
        · exact hchk_no (fun h => hh h.heap)
      rw [hc]
      refine Ev.step (f := fun k => heap_Check.l0 k l 1) (fun k => ?_) he
      simp [heap_Check.j0]
    · rw [decide_eq_false cn, hchk_no (fun h => cn h.once)]
      refine Ev.step (f := fun _ => some 2) (fun k => ?_) (Ev.now _)
      simp [heap_Check.j0]
theorem clone_some (l : List S29) (hl : l.length < 4398046511104) : api_Timer_44.f l = some l := by unfold api_Timer_44.f; rw [if_pos hl]
noncomputable def hsorted (l : List S29) : List S29 × Int := if hchk l = 0 then (Hp.srt tm_lt l, 0) else ([], 2)
theorem hchk_two {l : List S29} (h : ¬ hchk l = 0) : hchk l = 2 := by
  unfold hchk at *
  split at h
  · exact absurd rfl h
  · rw [if_neg (by assumption)]
theorem hsorted_yes {l : List S29} (h : hchk l = 0) : hsorted l = (Hp.srt tm_lt l, 0) := if_pos h
theorem hsorted_no {l : List S29} (h : ¬ hchk l = 0) : hsorted l = ([], 2) := if_neg h
theorem sorted_ev (l : List S29) (hl : l.length < 4398046511104) : Ev (fun k => heap_Sorted.f k l) (hsorted l) := by
  unfold heap_Sorted.f
  refine Ev.bind (check_ev l hl) ?_
  by_cases c : hchk l = 0
  · rw [hsorted_yes c]
    have hr := (hchk_iff l).1 c
    refine Ev.congr (f := fun _ => some (Hp.srt tm_lt l, 0)) (fun k => ?_) (Ev.now _)
    simp only [if_pos c]
    have h1 := clone_some l hl
    have h2 : api_Timer_52.f l = some (Hp.srt tm_lt l) := by
      unfold api_Timer_52.f
      rw [if_pos ⟨by have := hr.few; omega, hr.once⟩]
    rw [h1, Option.bind_some, h2, Option.bind_some]
  · rw [hsorted_no c]
    refine Ev.congr (f := fun _ => some ([], 2)) (fun k => ?_) (Ev.now _)
    rw [if_neg c, hchk_two c]
theorem make_some (l : List S29) (hl : l.length < 4398046511104) : heap_Make.f l = some (if (l.map (·.f1)).Nodup then if 4096 < l.length then ([], 8) else (Hp.heapify z29 tm_lt (l.length / 2) l, 0) else ([], 4)) := by
  unfold heap_Make.f; rw [if_pos hl]
theorem make_right (l : List S29) (hn : (l.map (·.f1)).Nodup) (hl : l.length ≤ 4096) : HRight (Hp.heapify z29 tm_lt (l.length / 2) l) := by
  obtain ⟨h1, h2⟩ := Hp.heapify_both z29 (lt := tm_lt) (l.length / 2) l (by omega)
  exact ⟨by omega, (h2.map _).nodup_iff.mpr hn, Hp.make_spec z29 tm_swo l⟩
theorem sum_ones5 {α : Type} (l : List α) : (l.map (fun _ => ((1 + (1 + (1 + 1))) + 1))).sum = 5 * l.length := by
  induction l with
  | nil => rfl
  | cons x l ih => rw [List.map_cons, List.sum_cons, ih, List.length_cons]; omega
theorem right_nil : HRight [] := ⟨Nat.zero_le _, List.nodup_nil, fun j _ j1 _ => absurd j1 (by simp)⟩
theorem HRight.fit {l : List S29} (h : HRight l) : l.length < 4398046511104 := by have := h.few; omega
theorem take_right {l : List S29} (h : HRight l) (i : Nat) (hi : i < l.length) : HRight (Hp.take_ z29 tm_lt l i) ∧ l.Perm (Hp.g z29 l i :: Hp.take_ z29 tm_lt l i) ∧ (Hp.take_ z29 tm_lt l i).length = l.length - 1 := by
  obtain ⟨p, e⟩ := Hp.take_perm z29 (lt := tm_lt) l i hi
  have hf := h.few
  refine ⟨⟨by omega, ?_, Hp.take_spec z29 tm_swo l i hi h.heap⟩, p, e⟩
  have hn := (p.map (·.f1)).nodup_iff.mp h.once
  rw [List.map_cons, List.nodup_cons] at hn
  exact hn.2
/-- What is taken comes ahead of all that stays, where it is the root. -/
theorem take_ahead {l : List S29} (h : HRight l) (hi : 0 < l.length) : ∀ t ∈ Hp.take_ z29 tm_lt l 0, tm_lt (Hp.g z29 l 0) t = true := by
  intro t ht
  obtain ⟨_, p, _⟩ := take_right h 0 hi
  have hm : t ∈ l := p.mem_iff.mpr (List.mem_cons_of_mem _ ht)
  obtain ⟨j, hj, rfl⟩ := List.getElem_of_mem hm
  have h1 := Hp.root z29 tm_swo l h.heap j hj
  rw [hpg_at l j hj] at h1
  by_cases c : tm_lt (Hp.g z29 l 0) l[j] = true
  · exact c
  · have h2 : l[j] = Hp.g z29 l 0 := h.apart l[j] (List.getElem_mem hj) _ (p.mem_iff.mpr List.mem_cons_self) h1 (by simpa using c)
    have hn := (p.map (·.f1)).nodup_iff.mp h.once
    rw [List.map_cons, List.nodup_cons] at hn
    exact absurd (List.mem_map.mpr ⟨l[j], ht, by rw [h2]⟩) hn.1
theorem find_spec (seq : Int) (l : List S29) : (hp_find seq l = -1 ∧ ∀ x ∈ l, x.f1 ≠ seq) ∨ ∃ i, ∃ h : i < l.length, hp_find seq l = (i : Int) ∧ l[i].f1 = seq := by
  letI : Inhabited S29 := ⟨z29⟩
  have gen : ∀ (l : List S29) (i : Nat), (Lib.idxByFrom (fun _ y => hp_is seq y) z29 l i = -1 ∧ ∀ x ∈ l, x.f1 ≠ seq) ∨ ∃ j, ∃ h : j < l.length, Lib.idxByFrom (fun _ y => hp_is seq y) z29 l i = ((i + j : Nat) : Int) ∧ l[j].f1 = seq := by
    intro l
    induction l with
    | nil => intro i; exact .inl ⟨rfl, fun x hx => absurd hx (by simp)⟩
    | cons y l ih =>
      intro i
      simp only [Lib.idxByFrom]
      by_cases c : hp_is seq y = true
      · rw [if_pos c]
        exact .inr ⟨0, by simp, by simp, by simpa [hp_is] using c⟩
      · rw [if_neg c]
        rcases ih (i + 1) with ⟨h1, h2⟩ | ⟨j, hj, h1, h2⟩
        · refine .inl ⟨h1, fun x hx => ?_⟩
          rcases List.mem_cons.mp hx with rfl | hx
          · simpa [hp_is] using c
          · exact h2 x hx
        · exact .inr ⟨j + 1, by simpa using hj, by rw [h1]; congr 1; omega, by simpa using h2⟩
  rcases gen l 0 with h | ⟨j, hj, h1, h2⟩
  · exact .inl h
  · exact .inr ⟨j, hj, by rw [Nat.zero_add] at h1; exact h1, h2⟩
/-- A timer that the heap does not hold, pushed. -/
theorem push_right {l : List S29} (h : HRight l) (x : S29) (hx : ∀ y ∈ l, y.f1 ≠ x.f1) (hl : l.length < 4096) : HRight (Hp.up z29 tm_lt l.length (l ++ [x]) l.length) ∧ (Hp.up z29 tm_lt l.length (l ++ [x]) l.length).Perm (x :: l) := by
  obtain ⟨e, p⟩ := Hp.up_both z29 tm_lt l.length (l ++ [x]) l.length (by simp)
  have p2 : (Hp.up z29 tm_lt l.length (l ++ [x]) l.length).Perm (x :: l) := p.trans (List.perm_append_comm (l₁ := l) (l₂ := [x]))
  refine ⟨⟨by rw [e]; simp; omega, ?_, Hp.push_spec z29 tm_swo l x h.heap⟩, p2⟩
  refine (p2.map (·.f1)).nodup_iff.mpr ?_
  rw [List.map_cons, List.nodup_cons]
  refine ⟨fun hm => ?_, h.once⟩
  obtain ⟨y, hy, e⟩ := List.mem_map.mp hm
  exact hx y hy e
end Go.Proofs.Ytlpbolkbdcgmnaa.XD
