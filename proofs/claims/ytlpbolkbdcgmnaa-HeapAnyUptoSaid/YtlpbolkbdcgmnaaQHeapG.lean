-- by a program of this session
import Derived.Test.YtlpbolkbdcgmnaaQHeapF
import Derived.Test.YtlpbolkbdcgmnaaQHeapR
import Derived.Test.YtlpbolkbdcgmnaaXH8
import Derived.Test.YtlpbolkbdcgmnaaXH6
import Derived.Test.YtlpbolkbdcgmnaaXH16
set_option linter.unusedVariables false
set_option linter.unusedSimpArgs false
/-! Heaps: what a right heap becomes, plain. -/
namespace Go.Proofs.Ytlpbolkbdcgmnaa.XH
open Go.RowKit Go.Proofs.YtlpbolkbdcgmnaaW.PrintWords Go.Proofs.YtlpbolkbdcgmnaaW.PrintLast Go.Proofs.YtlpbolkbdcgmnaaW.PrintMore
theorem sum_ones5 {α : Type} (l : List α) : (l.map (fun _ => ((1 + (1 + (1 + 1))) + 1))).sum = 5 * l.length := by
  induction l with
  | nil => rfl
  | cons x l ih => rw [List.map_cons, List.sum_cons, ih, List.length_cons]; omega
theorem right_nil : HRight [] := ⟨Nat.zero_le _, List.nodup_nil, fun j _ j1 _ => absurd j1 (by simp)⟩
theorem HRight.fit {l : List S29} (h : HRight l) : l.length < 4398046511104 := by have := h.few; omega
theorem take_right {l : List S29} (h : HRight l) (i : Nat) (hi : i < l.length) : HRight (Hp.take_ z29 tm_lt l i) ∧ l.Perm (Hp.g z29 l i :: Hp.take_ z29 tm_lt l i) ∧ (Hp.take_ z29 tm_lt l i).length = l.length - 1 := by
  obtain ⟨p, e⟩ := Hp.take_perm z29 (lt := tm_lt) l i hi
  have hf := h.few
  refine ⟨⟨by omega, ?_, Hp.take_spec z29 tm_swo l i hi h.heap⟩, p, e⟩
  have hn := (p.map (·.f1)).nodup_iff.mp h.once
  rw [List.map_cons, List.nodup_cons] at hn
  exact hn.2
/-- What is taken comes ahead of all that stays, where it is the root. -/
theorem take_ahead {l : List S29} (h : HRight l) (hi : 0 < l.length) : ∀ t ∈ Hp.take_ z29 tm_lt l 0, tm_lt (Hp.g z29 l 0) t = true := by
  intro t ht
  obtain ⟨_, p, _⟩ := take_right h 0 hi
  have hm : t ∈ l := p.mem_iff.mpr (List.mem_cons_of_mem _ ht)
  obtain ⟨j, hj, rfl⟩ := List.getElem_of_mem hm
  have h1 := Hp.root z29 tm_swo l h.heap j hj
  rw [hpg_at l j hj] at h1
  by_cases c : tm_lt (Hp.g z29 l 0) l[j] = true
  · exact c
  · have h2 : l[j] = Hp.g z29 l 0 := h.apart l[j] (List.getElem_mem hj) _ (p.mem_iff.mpr List.mem_cons_self) h1 (by simpa using c)
    have hn := (p.map (·.f1)).nodup_iff.mp h.once
    rw [List.map_cons, List.nodup_cons] at hn
    exact absurd (List.mem_map.mpr ⟨l[j], ht, by rw [h2]⟩) hn.1
theorem find_spec (seq : Int) (l : List S29) : (hp_find seq l = -1 ∧ ∀ x ∈ l, x.f1 ≠ seq) ∨ ∃ i, ∃ h : i < l.length, hp_find seq l = (i : Int) ∧ l[i].f1 = seq := by
  letI : Inhabited S29 := ⟨z29⟩
  have gen : ∀ (l : List S29) (i : Nat), (Lib.idxByFrom (fun _ y => hp_is seq y) z29 l i = -1 ∧ ∀ x ∈ l, x.f1 ≠ seq) ∨ ∃ j, ∃ h : j < l.length, Lib.idxByFrom (fun _ y => hp_is seq y) z29 l i = ((i + j : Nat) : Int) ∧ l[j].f1 = seq := by
    intro l
    induction l with
    | nil => intro i; exact .inl ⟨rfl, fun x hx => absurd hx (by simp)⟩
    | cons y l ih =>
      intro i
      simp only [Lib.idxByFrom]
      by_cases c : hp_is seq y = true
      · rw [if_pos c]
        exact .inr ⟨0, by simp, by simp, by simpa [hp_is] using c⟩
      · rw [if_neg c]
        rcases ih (i + 1) with ⟨h1, h2⟩ | ⟨j, hj, h1, h2⟩
        · refine .inl ⟨h1, fun x hx => ?_⟩
          rcases List.mem_cons.mp hx with rfl | hx
          · simpa [hp_is] using c
          · exact h2 x hx
        · exact .inr ⟨j + 1, by simpa using hj, by rw [h1]; congr 1; omega, by simpa using h2⟩
  rcases gen l 0 with h | ⟨j, hj, h1, h2⟩
  · exact .inl h
  · exact .inr ⟨j, hj, by rw [Nat.zero_add] at h1; exact h1, h2⟩
theorem pop_ev (l : List S29) (h : HRight l) : Ev (fun k => heap_Pop.f k l) (heap_three (if l.length = 0 then [] else Hp.take_ z29 tm_lt l 0) (Hp.g z29 l 0) (if l.length = 0 then 3 else 0)) := by
  unfold heap_Pop.f heap_fit
  refine Ev.congr (fun k => if_pos h.fit) (Ev.bind (check_ev l h.fit) ?_)
  rw [hchk_yes h]
  exact Ev.now _
theorem push_ev (l : List S29) (h : HRight l) (x : S29) : Ev (fun k => heap_Push.f k l x.f0 x.f1 x.f2 x.f3) (if 0 ≤ hp_find x.f1 l then l else if l.length = 4096 then l else Hp.up z29 tm_lt l.length (l ++ [x]) l.length, if 0 ≤ hp_find x.f1 l then 4 else if l.length = 4096 then 8 else 0) := by
  unfold heap_Push.f heap_fit
  refine Ev.congr (fun k => if_pos h.fit) (Ev.bind (check_ev l h.fit) ?_)
  rw [hchk_yes h]
  exact Ev.now _
theorem push_wrong (l : List S29) (hl : l.length < 4398046511104) (h : ¬ HRight l) (x : S29) : Ev (fun k => heap_Push.f k l x.f0 x.f1 x.f2 x.f3) ([], 2) := by
  unfold heap_Push.f heap_fit
  refine Ev.congr (fun k => if_pos hl) (Ev.bind (check_ev l hl) ?_)
  rw [hchk_no h]
  exact Ev.now _
theorem cancel_ev (l : List S29) (h : HRight l) (seq : Int) (i : Nat) (hi : hp_find seq l = (i : Int)) : Ev (fun k => heap_Cancel.f k l seq) (heap_three (Hp.take_ z29 tm_lt l i) (Hp.g z29 l i) 0) := by
  unfold heap_Cancel.f heap_fit
  refine Ev.congr (fun k => if_pos h.fit) (Ev.bind (check_ev l h.fit) ?_)
  rw [hchk_yes h, hi]
  simp only [if_neg (show ¬ (i : Int) < 0 by omega), Int.toNat_natCast, if_true]
  exact Ev.now _
/-- A timer that the heap does not hold, pushed. -/
theorem push_right {l : List S29} (h : HRight l) (x : S29) (hx : ∀ y ∈ l, y.f1 ≠ x.f1) (hl : l.length < 4096) : HRight (Hp.up z29 tm_lt l.length (l ++ [x]) l.length) ∧ (Hp.up z29 tm_lt l.length (l ++ [x]) l.length).Perm (x :: l) := by
  obtain ⟨e, p⟩ := Hp.up_both z29 tm_lt l.length (l ++ [x]) l.length (by simp)
  have p2 : (Hp.up z29 tm_lt l.length (l ++ [x]) l.length).Perm (x :: l) := p.trans (List.perm_append_comm (l₁ := l) (l₂ := [x]))
  refine ⟨⟨by rw [e]; simp; omega, ?_, Hp.push_spec z29 tm_swo l x h.heap⟩, p2⟩
  refine (p2.map (·.f1)).nodup_iff.mpr ?_
  rw [List.map_cons, List.nodup_cons]
  refine ⟨fun hm => ?_, h.once⟩
  obtain ⟨y, hy, e⟩ := List.mem_map.mp hm
  exact hx y hy e
theorem rfind_ev (l : List S29) (hl : l.length < 4398046511104) (j : Nat) (hj : j < l.length) : ∃ r : Int, Ev (fun k => bellmanref15_Find.f k l l[j].f1) r ∧ 0 ≤ r := by
  have main : ∀ (d i : Nat), j ≤ i + d → i ≤ j → ∃ r : Int, Ev (fun k => bellmanref15_Find.l0 k l[j].f1 l (l.length : Int) (i : Int)) r ∧ 0 ≤ r := by
    intro d
    induction d with
    | zero =>
      intro i hd hi
      obtain rfl : i = j := by omega
      refine ⟨(i : Int), Ev.step (f := fun _ => some (i : Int)) (fun k => ?_) (Ev.now _), by omega⟩
      simp only [bellmanref15_Find.l0]
      rw [if_pos (by omega), if_pos (by omega), if_pos (by omega), rd_at l i hj, if_pos rfl]
    | succ d ih =>
      intro i hd hi
      have c : i < l.length := by omega
      by_cases e : l[i].f1 = l[j].f1
      · refine ⟨(i : Int), Ev.step (f := fun _ => some (i : Int)) (fun k => ?_) (Ev.now _), by omega⟩
        simp only [bellmanref15_Find.l0]
        rw [if_pos (by omega), if_pos (by omega), if_pos (by omega), rd_at l i c, if_pos e]
      · have hne : i ≠ j := fun h => e (by subst h; rfl)
        obtain ⟨r, he, hr⟩ := ih (i + 1) (by omega) (by omega)
        refine ⟨r, Ev.step (f := fun k => bellmanref15_Find.l0 k l[j].f1 l (l.length : Int) ((i + 1 : Nat) : Int)) (fun k => ?_) he, hr⟩
        simp only [bellmanref15_Find.l0]
        rw [if_pos (by omega), if_pos (by omega), if_pos (by omega), rd_at l i c, if_neg e, wrap_succ i (by omega)]
  obtain ⟨r, he, hr⟩ := main j 0 (by omega) (by omega)
  exact ⟨r, he, hr⟩
end Go.Proofs.Ytlpbolkbdcgmnaa.XH
