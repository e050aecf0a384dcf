/- For every list of timers, list of times and number within the bound: timers that come due one time after the other come all, in order, each once; what is cancelled never comes. -/
import Derived.Test.YtlpbolkbdcgmnaaUTopDue
import Derived.Test.YtlpbolkbdcgmnaaQDueP
import Derived.Test.YtlpbolkbdcgmnaaQHeapC
set_option linter.unusedVariables false
set_option linter.unusedSimpArgs false
namespace Go.Proofs.Ytlpbolkbdcgmnaa.XD
open Go.RowKit Go.Proofs.YtlpbolkbdcgmnaaW.PrintWords Go.Proofs.YtlpbolkbdcgmnaaW.PrintLast Go.Proofs.YtlpbolkbdcgmnaaW.PrintMore
theorem begins_ok : bellmantop_begins.f = some true := by decide +kernel
theorem wrap_up (i : Nat) (h : i ≤ 4611686018427387904) : wrap64 ((i : Int) + 1) = ((i + 1 : Nat) : Int) := by unfold wrap64; omega
theorem rd_int (l : List Int) (i : Nat) (h : i < l.length) : rd l (i : Int) = l[i] := by
  unfold rd
  rw [Int.toNat_natCast, List.getD_eq_getElem?_getD, List.getElem?_eq_getElem h]
  rfl
theorem sum_ones1 {α : Type} (l : List α) : (l.map (fun _ => 1)).sum = l.length := by
  induction l with
  | nil => rfl
  | cons x l ih => rw [List.map_cons, List.sum_cons, ih, List.length_cons]; omega
theorem top_came (gone many t : Int) (left came : List S29) (times : List Int) (tl q : Int) (hg : ∀ x ∈ came, x.f1 ≠ gone) (hd : ∀ x ∈ came, x.f0 ≤ t) (hu : Hp.Up tm_lt came) (ho : (came.map (·.f1)).Nodup) (hc : came.length ≤ 4096) :
    ∀ (d i n : Nat) (p : S29), came.length = i + d → n + d ≤ 8192 → (∀ (h0 : 0 < i) (h1 : i - 1 < came.length), p = came[i - 1]) →
    (∀ p' : S29, Ev (fun k => bellmantop_TopDue.l0 k gone left many ((n + d : Nat) : Int) times tl (wrap64 (q + 1)) p'.f0 p'.f1 p'.f2 p'.f3) true) →
    Ev (fun k => bellmantop_TopDue.l1 k gone many (n : Int) t left times tl q came (came.length : Int) (i : Int) p.f0 p.f1 p.f2 p.f3) true := by
  intro d
  induction d with
  | zero =>
    intro i n p hi hn hp H
    exact Ev.step (fun k => by rw [bellmantop_TopDue.l1, if_neg (by omega)]; rfl) (H p)
  | succ d ih =>
    intro i n p hi hn hp H
    have hil : i < came.length := by omega
    have h1 := hg _ (List.getElem_mem hil)
    have h2 := hd _ (List.getElem_mem hil)
    have hnext := ih (i + 1) (n + 1) came[i] (by omega) (by omega) (fun _ _ => rfl) (fun p' => by
      have h3 := H p'
      rwa [show n + (d + 1) = n + 1 + d by omega] at h3)
    refine Ev.step (fun k => ?_) hnext
    rw [bellmantop_TopDue.l1, if_pos (by omega), if_pos (by omega), if_pos (by omega), rd_at came i hil, if_neg h1, if_neg (by omega), wrap_up n (by omega), wrap_up i (by omega)]
    by_cases h0 : 0 < i
    · obtain ⟨j, rfl⟩ : ∃ j, i = j + 1 := ⟨i - 1, by omega⟩
      have hpe := hp h0 (by omega)
      simp only [Nat.add_sub_cancel] at hpe
      have hs := of_decide_eq_true (up_strict ho hu j hil)
      rw [← hpe] at hs
      rw [if_pos (by omega)]
      by_cases e : came[j + 1].f0 = p.f0
      · rw [if_neg (by omega), if_pos e, if_neg (by omega)]
      · rw [if_neg (by omega), if_neg e]
    · rw [if_neg (by omega)]
theorem top_drain (gone many : Int) (times : List Int) (htl : times.length ≤ 1048576) (hne : 0 < times.length) (hlast : times[times.length - 1] = 9223372036854775807) :
    ∀ (d q n : Nat) (h : List S29) (p : S29), times.length = q + d → HRight h → (∀ x ∈ h, x.f1 ≠ gone) → (∀ x ∈ h, x.f0 ≤ 9223372036854775807) → n + h.length ≤ 4096 → many = ((n + h.length : Nat) : Int) →
    (∀ (h0 : 0 < q) (h1 : q - 1 < times.length), ∀ x ∈ h, times[q - 1] < x.f0) →
    Ev (fun k => bellmantop_TopDue.l0 k gone h many (n : Int) times (times.length : Int) (q : Int) p.f0 p.f1 p.f2 p.f3) true := by
  intro d
  induction d with
  | zero =>
    intro q n h p hq hr hg hw hn hm hd
    obtain rfl : q = times.length := by omega
    have hnil : h = [] := by
      cases h with
      | nil => rfl
      | cons x r =>
        have h1 := hd hne (by omega) x List.mem_cons_self
        have h2 := hw x List.mem_cons_self
        omega
    subst hnil
    refine Ev.step (f := fun _ => some true) (fun k => ?_) (Ev.now _)
    rw [bellmantop_TopDue.l0, if_neg (by omega), if_pos (by simp), hm]
    simp
  | succ d ih =>
    intro q n h p hq hr hg hw hn hm hd
    have hql : q < times.length := by omega
    obtain ⟨i1, i2, i3, i4, i5⟩ := pops_spec times[q] h.length h rfl hr
    have hlen : (du_pops times[q] h.length h).1.length + (du_pops times[q] h.length h).2.length = h.length := by
      have h9 := i2.length_eq
      rwa [List.length_append] at h9
    have hmem1 : ∀ x ∈ (du_pops times[q] h.length h).1, x ∈ h := fun x hx => i2.mem_iff.mp (List.mem_append_left _ hx)
    have hmem2 : ∀ x ∈ (du_pops times[q] h.length h).2, x ∈ h := fun x hx => i2.mem_iff.mp (List.mem_append_right _ hx)
    have ho : ((du_pops times[q] h.length h).1.map (·.f1)).Nodup := by
      have h1 := (i2.map (·.f1)).nodup_iff.mpr hr.once
      rw [List.map_append] at h1
      exact (List.nodup_append.mp h1).1
    refine Ev.step (fun k => by rw [bellmantop_TopDue.l0, if_pos (by omega), if_pos (by omega), if_pos (by omega), rd_int times q hql]) (Ev.bind (drain_yes times[q] h hr) (Ev.congr (fun k => if_pos rfl) ?_))
    refine top_came gone many times[q] _ _ times _ q (fun x hx => hg x (hmem1 x hx)) i4 i3 ho (by omega) _ 0 n p (by rw [Nat.zero_add]) (by omega) (fun h0 => absurd h0 (Nat.lt_irrefl 0)) (fun p' => ?_)
    rw [wrap_up q (by omega)]
    exact ih (q + 1) (n + (du_pops times[q] h.length h).1.length) (du_pops times[q] h.length h).2 p' (by omega) i1 (fun x hx => hg x (hmem2 x hx)) (fun x hx => hw x (hmem2 x hx)) (by omega) (by rw [hm]; congr 1; omega) (fun _ _ x hx => i5 x hx)
theorem top_j1 (gone : Int) (ts : List Int) (hts : ts.length ≤ 1048000) (h : List S29) (hr : HRight h) (hg : ∀ x ∈ h, x.f1 ≠ gone) (hw : ∀ x ∈ h, x.f0 ≤ 9223372036854775807) (many : Int) (hm : many = (h.length : Int)) : Ev (fun k => bellmantop_TopDue.j1 k ts gone h many) true := by
  have hl : (ts ++ [4611686018427387904, 9223372036854775807]).length = ts.length + 2 := by simp
  have he : (ts ++ [4611686018427387904, 9223372036854775807])[(ts ++ [4611686018427387904, 9223372036854775807]).length - 1]'(by omega) = 9223372036854775807 := by
    simp only [hl]
    rw [List.getElem_append_right (by omega)]
    simp
  have hmain := top_drain gone many (ts ++ [4611686018427387904, 9223372036854775807]) (by omega) (by omega) he _ 0 0 h ⟨0, 0, 0, 0⟩ (by rw [Nat.zero_add]) hr hg hw (by have := hr.few; omega) (by rw [hm, Nat.zero_add]) (fun h0 => absurd h0 (Nat.lt_irrefl 0))
  refine Ev.step (fun k => ?_) hmain
  rw [bellmantop_TopDue.j1]
  simp only [Option.bind_some, List.nil_append, List.length_nil, Nat.zero_add]
  rw [if_pos (by omega), if_pos (by simp; omega)]
  rfl
theorem pure_TopDue : bellmantop_TopDue.PureU := by
  intro l ts gone hwf _ _ hsz
  rw [sum_ones5, sum_ones1] at hsz
  have hl : l.length < 4398046511104 := by omega
  refine Ev.rounds ?_
  unfold bellmantop_TopDue.f
  rw [begins_ok]
  refine Ev.congr (fun k => by rw [Option.bind_some, if_pos rfl]) ?_
  have ht : Ev (fun k => bellmantop_TopDue.j0 k l ts gone true) true := Ev.step (f := fun _ => some true) (fun k => by rw [bellmantop_TopDue.j0, if_pos rfl]) (Ev.now _)
  by_cases c : 100 < l.length
  · exact Ev.congr (fun k => if_pos (by omega)) ht
  · refine Ev.congr (fun k => if_neg (by omega)) ?_
    by_cases c2 : (ts.length : Int) > 20
    · rw [decide_eq_true c2]; exact ht
    · rw [decide_eq_false c2]
      have hm := make_some l hl
      by_cases cn : (l.map (·.f1)).Nodup
      · rw [if_pos cn, if_neg (by omega)] at hm
        have hr := make_right l cn (by omega)
        have hp := (Hp.heapify_both z29 (lt := tm_lt) (l.length / 2) l (by omega)).2
        generalize Hp.heapify z29 tm_lt (l.length / 2) l = h at hm hr hp
        have hw : ∀ x ∈ h, x.f0 ≤ 9223372036854775807 := fun x hx => (fits_i64 (hwf x (hp.mem_iff.mp hx)).1).2
        refine Ev.step (fun k => by rw [bellmantop_TopDue.j0, if_neg (by decide), hm, Option.bind_some, if_pos rfl]) ?_
        rcases find_spec gone h with ⟨f1, f2⟩ | ⟨i, hi, f1, f2⟩
        · refine Ev.bind (cancel_none h hr gone f1) (Ev.congr (fun k => if_neg (show ¬ (3 : Int) = 0 by decide)) ?_)
          exact top_j1 gone ts (by omega) h hr f2 hw _ (by rw [hp.length_eq])
        · obtain ⟨t1, t2, t3⟩ := take_right hr i hi
          have hmem : ∀ x ∈ Hp.take_ z29 tm_lt h i, x ∈ h := fun x hx => t2.mem_iff.mpr (List.mem_cons_of_mem _ hx)
          refine Ev.bind (cancel_ev h hr gone i f1) (Ev.congr (fun k => if_pos rfl) ?_)
          refine top_j1 gone ts (by omega) _ t1 (fun x hx e => ?_) (fun x hx => hw x (hmem x hx)) _ ?_
          · have hn := (t2.map (·.f1)).nodup_iff.mp hr.once
            rw [List.map_cons, List.nodup_cons, hpg_at h i hi, f2, ← e] at hn
            exact hn.1 (List.mem_map_of_mem hx)
          · rw [t3, hp.length_eq]
            have := hp.length_eq
            unfold wrap64
            omega
      · rw [if_neg cn] at hm
        exact Ev.step (f := fun _ => some true) (fun k => by rw [bellmantop_TopDue.j0, if_neg (by decide), hm, Option.bind_some, if_neg (by decide)]) (Ev.now _)
end Go.Proofs.Ytlpbolkbdcgmnaa.XD
namespace Go.Proofs.Ytlpbolkbdcgmnaa.Pure
theorem TopDue : XD.bellmantop_TopDue.PureU := XD.pure_TopDue
end Go.Proofs.Ytlpbolkbdcgmnaa.Pure
