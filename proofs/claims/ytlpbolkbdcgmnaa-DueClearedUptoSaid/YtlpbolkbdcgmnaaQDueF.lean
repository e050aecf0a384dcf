-- by a program of this session
import Derived.Test.YtlpbolkbdcgmnaaQDueP
import Derived.Test.YtlpbolkbdcgmnaaQHeapR
import Derived.Test.YtlpbolkbdcgmnaaXD12
import Derived.Test.YtlpbolkbdcgmnaaXD13
set_option linter.unusedVariables false
set_option linter.unusedSimpArgs false
/-! Timers that come due: what the program answers, plain. -/
namespace Go.Proofs.Ytlpbolkbdcgmnaa.XD
open Go.RowKit Go.Proofs.YtlpbolkbdcgmnaaW.PrintWords Go.Proofs.YtlpbolkbdcgmnaaW.PrintLast Go.Proofs.YtlpbolkbdcgmnaaW.PrintMore
theorem count_loop (now : Int) (l : List S29) (hl : l.length ≤ 4096) : ∀ (d i n : Nat), l.length = i + d → n ≤ i → Ev (fun k => due_Count.l0 k now (n : Int) l (l.length : Int) (i : Int)) (((n + ((l.drop i).filter (due_by now)).length : Nat) : Int), 0) := by
  intro d
  induction d with
  | zero =>
    intro i n hd hn
    rw [List.drop_of_length_le (by omega)]
    refine Ev.step (f := fun _ => some ((n : Int), 0)) (fun k => ?_) (Ev.now _)
    rw [due_Count.l0, if_neg (by omega)]
  | succ d ih =>
    intro i n hd hn
    have hi : i < l.length := by omega
    rw [List.drop_eq_getElem_cons hi, List.filter_cons]
    by_cases c : l[i].f0 ≤ now
    · have c2 : due_by now l[i] = true := decide_eq_true c
      rw [if_pos c2, List.length_cons]
      have h2 := ih (i + 1) (n + 1) (by omega) (by omega)
      rw [show n + 1 + ((l.drop (i + 1)).filter (due_by now)).length = n + (((l.drop (i + 1)).filter (due_by now)).length + 1) by omega] at h2
      refine Ev.step (fun k => ?_) h2
      rw [due_Count.l0, if_pos (by omega), if_pos (by omega), if_pos (by omega), rd_at l i hi, if_pos c, wrap_succ n (by omega), wrap_succ i (by omega)]
    · have c2 : ¬ due_by now l[i] = true := fun h => c (of_decide_eq_true h)
      rw [if_neg c2]
      refine Ev.step (fun k => ?_) (ih (i + 1) n (by omega) (by omega))
      rw [due_Count.l0, if_pos (by omega), if_pos (by omega), if_pos (by omega), rd_at l i hi, if_neg c, wrap_succ i (by omega)]
theorem count_yes (now : Int) (l : List S29) (h : HRight l) : Ev (fun k => due_Count.f k l now) ((((Hp.srt tm_lt l).filter (due_by now)).length : Int), 0) := by
  have h2 := count_loop now l h.few l.length 0 0 (by omega) (by omega)
  rw [Nat.zero_add, List.drop_zero, ← ((Hp.srt_perm l).filter (due_by now)).length_eq] at h2
  unfold due_Count.f
  refine Ev.bind (check_ev l h.fit) (Ev.congr (fun k => if_pos (hchk_yes h)) h2)
theorem count_no (now : Int) (l : List S29) (hl : l.length < 4398046511104) (h : ¬ HRight l) : Ev (fun k => due_Count.f k l now) (0, 2) := by
  unfold due_Count.f
  refine Ev.bind (check_ev l hl) ?_
  rw [hchk_no h]
  exact Ev.congr (fun k => if_neg (by decide)) (Ev.now _)
/-- The first of a list of timers, told. -/
def first_of : List S29 → Int × Int × Int × Int × Int
  | [] => (0, 0, 0, 0, 3)
  | x :: _ => (x.f0, x.f1, x.f2, x.f3, 0)
theorem next_yes (l : List S29) (h : HRight l) : Ev (fun k => due_Next.f k l) (first_of (Hp.srt tm_lt l)) := by
  unfold due_Next.f
  refine Ev.bind (check_ev l h.fit) (Ev.congr (fun k => if_pos (hchk_yes h)) ?_)
  by_cases c : l.length = 0
  · obtain rfl := List.eq_nil_of_length_eq_zero c
    exact Ev.now _
  · rw [srt_root l h (by omega)]
    refine Ev.congr (fun k => if_neg (by omega)) (Ev.congr (fun k => if_pos (by omega)) ?_)
    rw [show (0 : Int) = ((0 : Nat) : Int) from rfl, rd_at l 0 (by omega), ← hpg_at l 0 (by omega)]
    exact Ev.now _
theorem next_no (l : List S29) (hl : l.length < 4398046511104) (h : ¬ HRight l) : Ev (fun k => due_Next.f k l) (0, 0, 0, 0, 2) := by
  unfold due_Next.f
  refine Ev.bind (check_ev l hl) ?_
  rw [hchk_no h]
  exact Ev.congr (fun k => if_neg (by decide)) (Ev.now _)
theorem move_yes (seq at_ : Int) (l : List S29) (h : HRight l) : Ev (fun k => due_Move.f k l seq at_) (du_move seq at_ l) := by
  unfold due_Move.f heap_fit
  refine Ev.congr (fun k => if_pos h.fit) (Ev.bind (check_ev l h.fit) ?_)
  rw [hchk_yes h]
  exact Ev.now _
theorem move_no (seq at_ : Int) (l : List S29) (hl : l.length < 4398046511104) (h : ¬ HRight l) : Ev (fun k => due_Move.f k l seq at_) ([], 2) := by
  unfold due_Move.f heap_fit
  refine Ev.congr (fun k => if_pos hl) (Ev.bind (check_ev l hl) ?_)
  rw [hchk_no h]
  exact Ev.now _
theorem HRight.fit_srt {l : List S29} (h : HRight l) : (Hp.srt tm_lt l).length < 4398046511104 := by rw [(Hp.srt_perm l).length_eq]; exact h.fit
theorem of_yes (kind ref : Int) (l : List S29) (h : HRight l) : Ev (fun k => due_Of.f k l kind ref) ((Hp.srt tm_lt l).filter (du_is kind ref), 0) := by
  have hs := sorted_ev l h.fit
  rw [hsorted_yes (hchk_yes h)] at hs
  unfold due_Of.f heap_fit
  exact Ev.bind hs (Ev.congr (fun k => if_pos h.fit_srt) (Ev.now _))
theorem of_no (kind ref : Int) (l : List S29) (hl : l.length < 4398046511104) (h : ¬ HRight l) : Ev (fun k => due_Of.f k l kind ref) ([], 2) := by
  have hs := sorted_ev l hl
  rw [hsorted_no (fun c => h ((hchk_iff l).mp c))] at hs
  unfold due_Of.f heap_fit
  exact Ev.bind hs (Ev.congr (fun k => if_pos (by decide : (0 : Nat) < 4398046511104)) (Ev.now _))
theorem clear_yes (kind ref : Int) (l : List S29) (h : HRight l) : Ev (fun k => due_Clear.f k l kind ref) ((Hp.srt tm_lt l).filter (fun x => !du_is kind ref x), wrap64 ((l.length : Int) - (((Hp.srt tm_lt l).filter (fun x => !du_is kind ref x)).length : Int)), 0) := by
  have hs := sorted_ev l h.fit
  rw [hsorted_yes (hchk_yes h)] at hs
  unfold due_Clear.f heap_fit
  exact Ev.bind hs (Ev.congr (fun k => if_pos h.fit_srt) (Ev.now _))
theorem clear_no (kind ref : Int) (l : List S29) (hl : l.length < 4398046511104) (h : ¬ HRight l) : Ev (fun k => due_Clear.f k l kind ref) ([], 0, 2) := by
  have hs := sorted_ev l hl
  rw [hsorted_no (fun c => h ((hchk_iff l).mp c))] at hs
  unfold due_Clear.f heap_fit
  exact Ev.bind hs (Ev.congr (fun k => if_pos (by decide : (0 : Nat) < 4398046511104)) (Ev.now _))
/-- A sorted list is a right heap. -/
theorem up_right {l : List S29} (hn : (l.map (·.f1)).Nodup) (hl : l.length ≤ 4096) (hu : Hp.Up tm_lt l) : HRight l := by
  refine ⟨hl, hn, fun j j0 j1 _ => ?_⟩
  unfold Hp.edge
  rw [hpg_at l j j1, hpg_at l ((j - 1) / 2) (by omega)]
  unfold Hp.Up at hu
  rw [List.pairwise_iff_getElem] at hu
  exact hu ((j - 1) / 2) j (by omega) j1 (by omega)
theorem srt_up_self {l : List S29} (h : Hp.Apart tm_lt l) (hu : Hp.Up tm_lt l) : Hp.srt tm_lt l = l := Hp.srt_of tm_swo h (List.Perm.refl _) hu
theorem filter_once {l : List S29} (h : (l.map (·.f1)).Nodup) (p : S29 → Bool) : ((l.filter p).map (·.f1)).Nodup := (List.filter_sublist.map _).nodup h
/-- What is left of a right heap's sorted timers is a right heap, and sorted. -/
theorem part_right {l : List S29} (h : HRight l) (p : S29 → Bool) : HRight ((Hp.srt tm_lt l).filter p) ∧ Hp.srt tm_lt ((Hp.srt tm_lt l).filter p) = (Hp.srt tm_lt l).filter p := by
  have h1 : ((Hp.srt tm_lt l).map (·.f1)).Nodup := h.perm_once (Hp.srt_perm l)
  have h2 := filter_once h1 p
  have h3 : Hp.Up tm_lt ((Hp.srt tm_lt l).filter p) := List.Pairwise.filter p (Hp.srt_up tm_swo l)
  have h4 : ((Hp.srt tm_lt l).filter p).length ≤ 4096 := Nat.le_trans (List.length_filter_le _ _) (by rw [(Hp.srt_perm l).length_eq]; exact h.few)
  exact ⟨up_right h2 h4 h3, srt_up_self (tm_apart h2) h3⟩
theorem lives16_30 : bellmanlaw16_lives.f 30 = some true := by decide +kernel
theorem lives16 : Ev bellmanlaw16_lives.f true := Ev.of (fun k => bellmanlaw16_lives.mono k) lives16_30
end Go.Proofs.Ytlpbolkbdcgmnaa.XD
