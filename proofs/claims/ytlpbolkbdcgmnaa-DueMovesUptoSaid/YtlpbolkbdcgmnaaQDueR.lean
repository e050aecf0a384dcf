-- by a program of this session
import Derived.Test.YtlpbolkbdcgmnaaQDueF
import Derived.Test.YtlpbolkbdcgmnaaXD14
import Derived.Test.YtlpbolkbdcgmnaaXD16
set_option linter.unusedVariables false
set_option linter.unusedSimpArgs false
/-! Timers that come due: what the definition answers, plain. -/
namespace Go.Proofs.Ytlpbolkbdcgmnaa.XD
open Go.RowKit Go.Proofs.YtlpbolkbdcgmnaaW.PrintWords Go.Proofs.YtlpbolkbdcgmnaaW.PrintLast Go.Proofs.YtlpbolkbdcgmnaaW.PrintMore
theorem rdrain_loop (now why : Int) (l : List S29) (hl : l.length ≤ 4096) : ∀ (d i : Nat) (a b : List S29), l.length = i + d → a.length ≤ i → b.length ≤ i →
    Ev (fun k => bellmanref16_Drain.l0 k now why a b l (l.length : Int) (i : Int)) (a ++ (l.drop i).filter (fun x => !due_by now x), b ++ (l.drop i).filter (due_by now), why) := by
  intro d
  induction d with
  | zero =>
    intro i a b hd ha hb
    rw [List.drop_of_length_le (by omega), List.filter_nil, List.filter_nil, List.append_nil, List.append_nil]
    refine Ev.step (f := fun _ => some (a, b, why)) (fun k => ?_) (Ev.now _)
    rw [bellmanref16_Drain.l0, if_neg (by omega)]
  | succ d ih =>
    intro i a b hd ha hb
    have hi : i < l.length := by omega
    rw [List.drop_eq_getElem_cons hi, List.filter_cons, List.filter_cons]
    by_cases c : l[i].f0 ≤ now
    · have c2 : due_by now l[i] = true := decide_eq_true c
      rw [c2, if_neg (by decide), if_pos rfl]
      have h2 := ih (i + 1) a (b ++ [l[i]]) (by omega) (by omega) (by simp; omega)
      rw [List.append_assoc] at h2
      refine Ev.step (fun k => ?_) h2
      rw [bellmanref16_Drain.l0, if_pos (by omega), if_pos (by omega), if_pos (by omega), rd_at l i hi, if_pos c, if_pos (by omega), wrap_succ i (by omega)]
    · have c2 : due_by now l[i] = false := decide_eq_false c
      rw [c2, if_pos (by decide), if_neg (by decide)]
      have h2 := ih (i + 1) (a ++ [l[i]]) b (by omega) (by simp; omega) (by omega)
      rw [List.append_assoc] at h2
      refine Ev.step (fun k => ?_) h2
      rw [bellmanref16_Drain.l0, if_pos (by omega), if_pos (by omega), if_pos (by omega), rd_at l i hi, if_neg c, if_pos (by omega), wrap_succ i (by omega)]
theorem HRight.few_srt {l : List S29} (h : HRight l) : (Hp.srt tm_lt l).length ≤ 4096 := by rw [(Hp.srt_perm l).length_eq]; exact h.few
theorem rs_yes {l : List S29} (h : HRight l) : Ev (fun k => bellmanref15_Sorted.f k l) (Hp.srt tm_lt l, 0) := by
  have hs := rsorted_ev l h.fit
  rwa [hsorted_yes (hchk_yes h)] at hs
theorem rs_no {l : List S29} (hl : l.length < 4398046511104) (h : ¬ HRight l) : Ev (fun k => bellmanref15_Sorted.f k l) ([], 2) := by
  have hs := rsorted_ev l hl
  rwa [hsorted_no (fun c => h ((hchk_iff l).mp c))] at hs
theorem rdrain_yes (now : Int) (l : List S29) (h : HRight l) : Ev (fun k => bellmanref16_Drain.f k l now) ((Hp.srt tm_lt l).filter (fun x => !due_by now x), (Hp.srt tm_lt l).filter (due_by now), 0) := by
  unfold bellmanref16_Drain.f
  exact Ev.bind (rs_yes h) (rdrain_loop now 0 (Hp.srt tm_lt l) h.few_srt (Hp.srt tm_lt l).length 0 [] [] (by omega) (Nat.le_refl _) (Nat.le_refl _))
theorem rdrain_no (now : Int) (l : List S29) (hl : l.length < 4398046511104) (h : ¬ HRight l) : Ev (fun k => bellmanref16_Drain.f k l now) ([], [], 2) := by
  unfold bellmanref16_Drain.f
  exact Ev.bind (rs_no hl h) (rdrain_loop now 2 [] (by decide) 0 0 [] [] rfl (Nat.le_refl _) (Nat.le_refl _))
theorem rcount_yes (now : Int) (l : List S29) (h : HRight l) : Ev (fun k => bellmanref16_Count.f k l now) ((((Hp.srt tm_lt l).filter (due_by now)).length : Int), 0) := by
  unfold bellmanref16_Count.f
  exact Ev.bind (rdrain_yes now l h) (Ev.now _)
theorem rcount_no (now : Int) (l : List S29) (hl : l.length < 4398046511104) (h : ¬ HRight l) : Ev (fun k => bellmanref16_Count.f k l now) (0, 2) := by
  unfold bellmanref16_Count.f
  exact Ev.bind (rdrain_no now l hl h) (Ev.now _)
theorem rnext_yes (l : List S29) (h : HRight l) : Ev (fun k => bellmanref16_Next.f k l) (first_of (Hp.srt tm_lt l)) := by
  unfold bellmanref16_Next.f
  refine Ev.bind (rs_yes h) (Ev.congr (fun k => if_pos rfl) ?_)
  cases Hp.srt tm_lt l with
  | nil => exact Ev.now _
  | cons x r =>
    refine Ev.congr (fun k => if_neg (by first | (simp; done) | (simp; omega))) (Ev.congr (fun k => if_pos (by first | (simp; done) | (simp; omega))) ?_)
    rw [show (0 : Int) = ((0 : Nat) : Int) from rfl, rd_at (x :: r) 0 (by simp)]
    exact Ev.now _
theorem rnext_no (l : List S29) (hl : l.length < 4398046511104) (h : ¬ HRight l) : Ev (fun k => bellmanref16_Next.f k l) (0, 0, 0, 0, 2) := by
  unfold bellmanref16_Next.f
  exact Ev.bind (rs_no hl h) (Ev.congr (fun k => if_neg (by decide)) (Ev.now _))
theorem rof_loop (kind ref why : Int) (l : List S29) (hl : l.length ≤ 4096) : ∀ (d i : Nat) (a : List S29), l.length = i + d → a.length ≤ i →
    Ev (fun k => bellmanref16_Of.l0 k kind ref why a l (l.length : Int) (i : Int)) (a ++ (l.drop i).filter (du_is kind ref), why) := by
  intro d
  induction d with
  | zero =>
    intro i a hd ha
    rw [List.drop_of_length_le (by omega), List.filter_nil, List.append_nil]
    refine Ev.step (f := fun _ => some (a, why)) (fun k => ?_) (Ev.now _)
    rw [bellmanref16_Of.l0, if_neg (by omega)]
  | succ d ih =>
    intro i a hd ha
    have hi : i < l.length := by omega
    rw [List.drop_eq_getElem_cons hi, List.filter_cons]
    by_cases c : l[i].f2 = kind
    · by_cases e : l[i].f3 = ref
      · have c2 : du_is kind ref l[i] = true := by unfold du_is; simp [c, e]
        rw [if_pos c2]
        have h2 := ih (i + 1) (a ++ [l[i]]) (by omega) (by simp; omega)
        rw [List.append_assoc] at h2
        refine Ev.step (fun k => ?_) h2
        rw [bellmanref16_Of.l0, if_pos (by omega), if_pos (by omega), if_pos (by omega), rd_at l i hi, if_pos c, if_pos e, if_pos (by omega), wrap_succ i (by omega)]
      · have c2 : ¬ du_is kind ref l[i] = true := by unfold du_is; simp [e]
        rw [if_neg c2]
        refine Ev.step (fun k => ?_) (ih (i + 1) a (by omega) (by omega))
        rw [bellmanref16_Of.l0, if_pos (by omega), if_pos (by omega), if_pos (by omega), rd_at l i hi, if_pos c, if_neg e, wrap_succ i (by omega)]
    · have c2 : ¬ du_is kind ref l[i] = true := by unfold du_is; simp [c]
      rw [if_neg c2]
      refine Ev.step (fun k => ?_) (ih (i + 1) a (by omega) (by omega))
      rw [bellmanref16_Of.l0, if_pos (by omega), if_pos (by omega), if_pos (by omega), rd_at l i hi, if_neg c, wrap_succ i (by omega)]
theorem rof_yes (kind ref : Int) (l : List S29) (h : HRight l) : Ev (fun k => bellmanref16_Of.f k l kind ref) ((Hp.srt tm_lt l).filter (du_is kind ref), 0) := by
  unfold bellmanref16_Of.f
  exact Ev.bind (rs_yes h) (rof_loop kind ref 0 (Hp.srt tm_lt l) h.few_srt (Hp.srt tm_lt l).length 0 [] (by omega) (Nat.le_refl _))
theorem rof_no (kind ref : Int) (l : List S29) (hl : l.length < 4398046511104) (h : ¬ HRight l) : Ev (fun k => bellmanref16_Of.f k l kind ref) ([], 2) := by
  unfold bellmanref16_Of.f
  exact Ev.bind (rs_no hl h) (rof_loop kind ref 2 [] (by decide) 0 0 [] rfl (Nat.le_refl _))
theorem rclear_loop (kind ref why : Int) (l0 l : List S29) (hl : l.length ≤ 4096) : ∀ (d i : Nat) (a : List S29), l.length = i + d → a.length ≤ i →
    Ev (fun k => bellmanref16_Clear.l0 k kind ref l0 why a l (l.length : Int) (i : Int)) (a ++ (l.drop i).filter (fun x => !du_is kind ref x), wrap64 ((l0.length : Int) - ((a ++ (l.drop i).filter (fun x => !du_is kind ref x)).length : Int)), why) := by
  intro d
  induction d with
  | zero =>
    intro i a hd ha
    rw [List.drop_of_length_le (by omega), List.filter_nil, List.append_nil]
    refine Ev.step (f := fun _ => some (a, wrap64 ((l0.length : Int) - (a.length : Int)), why)) (fun k => ?_) (Ev.now _)
    rw [bellmanref16_Clear.l0, if_neg (by omega)]
  | succ d ih =>
    intro i a hd ha
    have hi : i < l.length := by omega
    rw [List.drop_eq_getElem_cons hi, List.filter_cons]
    have h2 := ih (i + 1) (a ++ [l[i]]) (by omega) (by simp; omega)
    rw [List.append_assoc] at h2
    by_cases c : l[i].f2 = kind
    · by_cases e : l[i].f3 = ref
      · have c2 : ¬ (!du_is kind ref l[i]) = true := by unfold du_is; simp [c, e]
        rw [if_neg c2]
        refine Ev.step (fun k => ?_) (ih (i + 1) a (by omega) (by omega))
        rw [bellmanref16_Clear.l0, if_pos (by omega), if_pos (by omega), if_pos (by omega), rd_at l i hi, if_pos c, if_pos e, wrap_succ i (by omega)]
      · have c2 : (!du_is kind ref l[i]) = true := by unfold du_is; simp [e]
        rw [if_pos c2]
        refine Ev.step (fun k => ?_) h2
        rw [bellmanref16_Clear.l0, if_pos (by omega), if_pos (by omega), if_pos (by omega), rd_at l i hi, if_pos c, if_neg e, if_pos (by omega), wrap_succ i (by omega)]
    · have c2 : (!du_is kind ref l[i]) = true := by unfold du_is; simp [c]
      rw [if_pos c2]
      refine Ev.step (fun k => ?_) h2
      rw [bellmanref16_Clear.l0, if_pos (by omega), if_pos (by omega), if_pos (by omega), rd_at l i hi, if_neg c, if_pos (by omega), wrap_succ i (by omega)]
theorem rclear_yes (kind ref : Int) (l : List S29) (h : HRight l) : Ev (fun k => bellmanref16_Clear.f k l kind ref) ((Hp.srt tm_lt l).filter (fun x => !du_is kind ref x), wrap64 ((l.length : Int) - (((Hp.srt tm_lt l).filter (fun x => !du_is kind ref x)).length : Int)), 0) := by
  have h2 := rclear_loop kind ref 0 (Hp.srt tm_lt l) (Hp.srt tm_lt l) h.few_srt (Hp.srt tm_lt l).length 0 [] (by omega) (Nat.le_refl _)
  rw [List.drop_zero, List.nil_append] at h2
  unfold bellmanref16_Clear.f
  rw [← (Hp.srt_perm (lt := tm_lt) l).length_eq]
  exact Ev.bind (rs_yes h) h2
theorem rclear_no (kind ref : Int) (l : List S29) (hl : l.length < 4398046511104) (h : ¬ HRight l) : Ev (fun k => bellmanref16_Clear.f k l kind ref) ([], 0, 2) := by
  have h2 := rclear_loop kind ref 2 [] [] (by decide) 0 0 [] rfl (Nat.le_refl _)
  rw [List.drop_nil, List.filter_nil, List.append_nil, show wrap64 ((([] : List S29).length : Int) - (([] : List S29).length : Int)) = 0 by rw [Int.sub_self]; unfold wrap64; omega] at h2
  unfold bellmanref16_Clear.f
  exact Ev.bind (rs_no hl h) h2
theorem rfind_full (l : List S29) (hl : l.length ≤ 4096) (seq : Int) : ∃ r : Int, Ev (fun k => bellmanref15_Find.f k l seq) r ∧ ((r = -1 ∧ ∀ x ∈ l, x.f1 ≠ seq) ∨ ∃ j, ∃ h : j < l.length, r = (j : Int) ∧ l[j].f1 = seq) := by
  have main : ∀ (d i : Nat), l.length = i + d → (∀ x ∈ l.take i, x.f1 ≠ seq) → ∃ r : Int, Ev (fun k => bellmanref15_Find.l0 k seq l (l.length : Int) (i : Int)) r ∧ ((r = -1 ∧ ∀ x ∈ l, x.f1 ≠ seq) ∨ ∃ j, ∃ h : j < l.length, r = (j : Int) ∧ l[j].f1 = seq) := by
    intro d
    induction d with
    | zero =>
      intro i hd hp
      rw [List.take_of_length_le (by omega)] at hp
      refine ⟨-1, Ev.step (f := fun _ => some (-1)) (fun k => ?_) (Ev.now _), .inl ⟨rfl, hp⟩⟩
      rw [bellmanref15_Find.l0, if_neg (by omega)]
    | succ d ih =>
      intro i hd hp
      have hi : i < l.length := by omega
      by_cases e : l[i].f1 = seq
      · refine ⟨(i : Int), Ev.step (f := fun _ => some (i : Int)) (fun k => ?_) (Ev.now _), .inr ⟨i, hi, rfl, e⟩⟩
        rw [bellmanref15_Find.l0, if_pos (by omega), if_pos (by omega), if_pos (by omega), rd_at l i hi, if_pos e]
      · obtain ⟨r, h1, h2⟩ := ih (i + 1) (by omega) (fun x hx => by
          rw [List.take_succ_eq_append_getElem hi] at hx
          rcases List.mem_append.mp hx with hx | hx
          · exact hp x hx
          · rw [List.mem_singleton] at hx; rw [hx]; exact e)
        refine ⟨r, Ev.step (fun k => ?_) h1, h2⟩
        rw [bellmanref15_Find.l0, if_pos (by omega), if_pos (by omega), if_pos (by omega), rd_at l i hi, if_neg e, wrap_succ i (by omega)]
  exact main l.length 0 (by omega) (fun x hx => absurd hx (by simp))
theorem set_perm : ∀ (l : List S29) (j : Nat) (_ : j < l.length) (x : S29), (l.set j x).Perm (x :: l.eraseIdx j)
  | [], j, h, _ => absurd h (Nat.not_lt_zero _)
  | y :: l, 0, _, x => List.Perm.refl _
  | y :: l, j + 1, h, x => by
    rw [List.set_cons_succ, List.eraseIdx_cons_succ]
    exact ((set_perm l j (Nat.lt_of_succ_lt_succ h) x).cons y).trans (List.Perm.swap _ _ _)
theorem rmove_no (seq at_ : Int) (l : List S29) (hl : l.length < 4398046511104) (h : ¬ HRight l) : Ev (fun k => bellmanref16_Move.f k l seq at_) ([], 2) := by
  unfold bellmanref16_Move.f
  exact Ev.bind (rs_no hl h) (Ev.congr (fun k => if_neg (by decide)) (Ev.now _))
/-- The timer of a Seq, moved. -/
theorem rmove_yes (seq at_ : Int) (l : List S29) (h : HRight l) : Ev (fun k => bellmanref16_Move.f k l seq at_) (Hp.srt tm_lt (du_move seq at_ l).1, (du_move seq at_ l).2) ∧ HRight (du_move seq at_ l).1 := by
  obtain ⟨r, hr, hc⟩ := rfind_full (Hp.srt tm_lt l) h.few_srt seq
  have hperm := Hp.srt_perm (lt := tm_lt) l
  rcases hc with ⟨rfl, hno⟩ | ⟨j, hj, rfl, hje⟩
  · have hf : hp_find seq l < 0 := by
      rcases find_spec seq l with ⟨h1, _⟩ | ⟨i, hi, _, h2⟩
      · omega
      · exact absurd h2 (hno _ (hperm.mem_iff.mpr (List.getElem_mem hi)))
    have hm : du_move seq at_ l = (l, 3) := by unfold du_move; rw [if_pos hf]
    rw [hm]
    refine ⟨?_, h⟩
    unfold bellmanref16_Move.f
    exact Ev.bind (rs_yes h) (Ev.congr (fun k => if_pos rfl) (Ev.bind hr (Ev.congr (fun k => if_pos (by decide)) (Ev.now _))))
  · obtain ⟨i, hi, hf, hie⟩ : ∃ i, ∃ h : i < l.length, hp_find seq l = (i : Int) ∧ l[i].f1 = seq := by
      rcases find_spec seq l with ⟨_, h1⟩ | h1
      · exact absurd hje (h1 _ (hperm.mem_iff.mp (List.getElem_mem hj)))
      · exact h1
    obtain ⟨t1, t2, t3⟩ := take_right h i hi
    rw [hpg_at l i hi] at t2
    have hin : ∀ y ∈ Hp.take_ z29 tm_lt l i, y.f1 ≠ l[i].f1 := by
      intro y hy e
      have hn := (t2.map (·.f1)).nodup_iff.mp h.once
      rw [List.map_cons, List.nodup_cons] at hn
      exact hn.1 (e ▸ List.mem_map_of_mem hy)
    have hfew := h.few
    have hnf : ¬ 0 ≤ hp_find l[i].f1 (Hp.take_ z29 tm_lt l i) := by
      rcases find_spec l[i].f1 (Hp.take_ z29 tm_lt l i) with ⟨h1, _⟩ | ⟨q, hq, _, h2⟩
      · omega
      · exact absurd h2 (hin _ (List.getElem_mem hq))
    have hm : du_move seq at_ l = (Hp.up z29 tm_lt (Hp.take_ z29 tm_lt l i).length (Hp.take_ z29 tm_lt l i ++ [{ l[i] with f0 := at_ }]) (Hp.take_ z29 tm_lt l i).length, 0) := by
      unfold du_move du_pushed
      rw [if_neg (by omega), hf, Int.toNat_natCast, hpg_at l i hi]
      simp only []
      rw [if_neg hnf, if_neg hnf, if_neg (by omega), if_neg (by omega)]
    obtain ⟨p1, p2⟩ := push_right t1 { l[i] with f0 := at_ } hin (by omega)
    rw [hm]
    refine ⟨?_, p1⟩
    have hx : (Hp.srt tm_lt l)[j] = l[i] := by
      have hmem : (Hp.srt tm_lt l)[j] ∈ l[i] :: Hp.take_ z29 tm_lt l i := t2.mem_iff.mp (hperm.mem_iff.mp (List.getElem_mem hj))
      rcases List.mem_cons.mp hmem with e | e
      · exact e
      · exact absurd (hje.trans hie.symm) (hin _ e)
    have hset : ((Hp.srt tm_lt l).set j { l[i] with f0 := at_ }).Perm ({ l[i] with f0 := at_ } :: Hp.take_ z29 tm_lt l i) := by
      have h5 := set_perm (Hp.srt tm_lt l) j hj (Hp.srt tm_lt l)[j]
      rw [List.set_getElem_self, hx] at h5
      have h6 := (h5.symm.trans (hperm.trans t2)).cons_inv
      exact (set_perm (Hp.srt tm_lt l) j hj _).trans (h6.cons _)
    have hsrt : Hp.srt tm_lt ((Hp.srt tm_lt l).set j { l[i] with f0 := at_ }) = Hp.srt tm_lt (Hp.up z29 tm_lt (Hp.take_ z29 tm_lt l i).length (Hp.take_ z29 tm_lt l i ++ [{ l[i] with f0 := at_ }]) (Hp.take_ z29 tm_lt l i).length) := Hp.srt_eq tm_swo p1.apart (hset.trans p2.symm)
    unfold bellmanref16_Move.f
    refine Ev.bind (rs_yes h) (Ev.congr (fun k => if_pos rfl) (Ev.bind hr (Ev.congr (fun k => if_neg (by omega)) (Ev.congr (fun k => if_pos (by omega)) (Ev.congr (fun k => if_pos (by simp only []; omega)) ?_)))))
    simp only [rd_at _ j hj, Int.toNat_natCast, hx]
    rw [sort_some _ (by rw [List.length_set]; have := h.few_srt; omega), Option.bind_some, ← hsrt]
    exact Ev.now _
end Go.Proofs.Ytlpbolkbdcgmnaa.XD
