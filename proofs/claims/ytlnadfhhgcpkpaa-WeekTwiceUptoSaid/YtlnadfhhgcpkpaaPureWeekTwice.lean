/- For every list of ranges within the bound: twice not is itself; a week and what it has not have no minute both, and all together; made again a week is itself. -/
import Derived.Test.YtlnadfhhgcpkpaaUWeekTwice
import Derived.Test.YtlnadfhhgcpkpaaQWeekA
import Derived.Test.YtlnadfhhgcpkpaaQWeekLives
set_option linter.unusedVariables false
set_option linter.unusedSimpArgs false
namespace Go.Proofs.Ytlnadfhhgcpkpaa.XW
open Go.RowKit Go.Proofs.YtlnadfhhgcpkpaaW.PrintWords Go.Proofs.YtlnadfhhgcpkpaaW.PrintLast Go.Proofs.YtlnadfhhgcpkpaaW.PrintMore Go.Proofs.Ytlnadfhhgcpkpaa.Wk
theorem sum_ones2 {α : Type} (l : List α) : (l.map (fun _ => ((1 + 1) + 1))).sum = 3 * l.length := by
  induction l with
  | nil => rfl
  | cons x l ih => rw [List.map_cons, List.sum_cons, ih, List.length_cons]; omega
theorem tot_append (a b : List Sg) : tot (a ++ b) = tot a + tot b := by
  unfold tot
  rw [List.map_append, List.sum_append]
theorem tot_both : ∀ (l : List Sg) (a : Int), a ≤ 10080 → nrm (a - 1) (prs l) → (∀ x ∈ l, x.f1 ≤ 10080) → tot (compl a l) + tot l = 10080 - a
  | [], a, ha, _, _ => by
    unfold compl
    by_cases c : a < 10080
    · rw [if_pos c]; simp [tot]
    · rw [if_neg c]; simp [tot]; omega
  | x :: l, a, ha, hn, hb => by
    obtain ⟨h1, h2, h3⟩ := hn
    have h1' : a - 1 < x.f0 := h1
    have h2' : x.f0 < x.f1 := h2
    have hn3 : nrm x.f1 (prs l) := h3
    have ih := tot_both l x.f1 (hb x List.mem_cons_self) (nrm_down (by omega) hn3) (fun y hy => hb y (List.mem_cons_of_mem _ hy))
    unfold compl
    rw [tot_append, tot_cons]
    by_cases c : a < x.f0
    · rw [if_pos c, tot_cons]
      have : tot ([] : List Sg) = 0 := rfl
      rw [this]
      show x.f0 - a + 0 + tot (compl x.f1 l) + (x.f1 - x.f0 + tot l) = 10080 - a
      omega
    · rw [if_neg c]
      have : tot ([] : List Sg) = 0 := rfl
      rw [this]
      omega
theorem had_week (l : List Sg) (hr : rightB l = true) (m : Int) (h : had (prs l) m = true) : 0 ≤ m ∧ m < 10080 := by
  obtain ⟨x, hx, h1, h2⟩ := (had_iff _ _).mp h
  obtain ⟨y, hy, rfl⟩ := List.mem_map.mp hx
  obtain ⟨b1, b2, b3⟩ := right_bounds l hr y hy
  have h1' : y.f0 ≤ m := h1
  have h2' : m < y.f1 := h2
  omega
theorem any_inB (l : List Sg) (hr : rightB l = true) (m : Int) : l.any (fun x => inB x m) = had (prs l) m := by
  unfold had prs
  rw [List.any_map, Bool.eq_iff_iff, List.any_eq_true, List.any_eq_true]
  constructor
  · rintro ⟨x, hx, h⟩
    obtain ⟨b1, b2, b3⟩ := right_bounds l hr x hx
    refine ⟨x, hx, ?_⟩
    unfold inB at h
    rw [if_pos (by omega)] at h
    exact h
  · rintro ⟨x, hx, h⟩
    obtain ⟨b1, b2, b3⟩ := right_bounds l hr x hx
    refine ⟨x, hx, ?_⟩
    unfold inB
    rw [if_pos (by omega)]
    exact h
theorem right_off (l : List Sg) (hr : rightB l = true) : l.any week_R.off = false := by
  rw [Bool.eq_false_iff]
  intro h
  obtain ⟨x, hx, h⟩ := List.any_eq_true.mp h
  obtain ⟨b1, b2, b3⟩ := right_bounds l hr x hx
  unfold week_R.off at h
  simp at h
  omega
/-- What is put together out of a right week's minutes is that week. -/
theorem jn_self (l : List Sg) (hr : rightB l = true) (J : List Rg) (hn : nrm (-1) J) (h : ∀ m, had J m = had (prs l) m) : jn J = (l, 0) := by
  obtain ⟨g1, _, g3⟩ := right_nrm l hr
  have e : J = prs l := nrm_ext J (prs l) (-1) (-1) hn g1 h
  unfold jn
  rw [e, prs_len, if_pos g3, mk_prs]
theorem make_self (l : List Sg) (hr : rightB l = true) (k : Nat) (hk : 2000 ≤ k) : week_Make.f k l = some (l, 0) := by
  rcases make_eq l k hk with ⟨h, _⟩ | ⟨_, h, _⟩ | ⟨_, _, J, h1, h2, h3⟩
  · rw [right_off l hr] at h; cases h
  · have := (right_nrm l hr).2.2; omega
  · rw [h3, jn_self l hr J h1 (fun m => by
      rw [h2, any_inB l hr]
      cases hh : had (prs l) m with
      | false => rw [Bool.and_false]
      | true =>
        obtain ⟨a, b⟩ := had_week l hr m hh
        rw [decide_eq_true a, decide_eq_true b]; rfl)]
theorem pure_WeekTwice : bellmanlaw07_WeekTwice.PureU := by
  intro l hl hsz
  rw [sum_ones2] at hsz
  have hlen : l.length ≤ 1000000 := by omega
  refine ⟨1000100, ?_⟩
  unfold bellmanlaw07_WeekTwice.f
  rw [lives_ok 1000100 (by omega), Option.bind_some, if_pos rfl]
  rcases weeknot_eq l hlen 1000100 (by omega) with ⟨hr, e⟩ | ⟨hr, J, h1, h2, e⟩
  · rw [e, Option.bind_some]; rfl
  · rw [e, Option.bind_some]
    by_cases c : J.length ≤ 64
    · obtain ⟨g1, g2, g3⟩ := right_nrm l hr
      have hn0 : nrm (0 - 1) (prs l) := g1
      have eJ : J = prs (compl 0 l) := nrm_ext J _ (-1) (-1) h1 (compl_nrm l 0 (-1) (by omega) hn0 g2) (fun m => by rw [h2, compl_had l 0 hn0 g2])
      have ejn : jn J = (compl 0 l, 0) := by unfold jn; rw [if_pos c, eJ, mk_prs]
      have hnr : rightB (compl 0 l) = true := by
        have := jn_right J h1 (fun m hm => by rw [h2] at hm; simp at hm; omega) c
        rwa [eJ, mk_prs] at this
      have hcl := compl_len l 0
      have hcn := compl_had l 0 hn0 g2
      rw [ejn]
      generalize hN : compl 0 l = n at hnr hcl hcn
      have hnlen : n.length ≤ 1000000 := by omega
      -- twice
      rcases weeknot_eq n hnlen 1000100 (by omega) with ⟨hr2, _⟩ | ⟨_, J2, a1, a2, e2⟩
      · rw [hnr] at hr2; cases hr2
      have e2' : week_Not.f 1000100 n = some (l, 0) := by
        rw [e2, jn_self l hr J2 a1 (fun m => by
          rw [a2, hcn]
          cases hh : had (prs l) m with
          | true =>
            obtain ⟨u, v⟩ := had_week l hr m hh
            rw [decide_eq_true u, decide_eq_true v]; rfl
          | false => cases (decide (0 ≤ m) && decide (m < 10080)) <;> rfl)]
      rcases and_eq l n hlen hnlen 1000100 (by omega) with ⟨hr3, _⟩ | ⟨_, J3, b1, b2, e3⟩
      · rw [hr, hnr] at hr3; cases hr3
      have e3' : week_And.f 1000100 l n = some ([], 0) := by
        have : J3 = [] := nrm_ext J3 [] (-1) (-1) b1 trivial (fun m => by
          rw [b2, hcn, had_nil]
          cases had (prs l) m <;> simp)
        rw [e3, this]; rfl
      rcases or_eq l n hlen hnlen 1000100 (by omega) with ⟨hr4, _⟩ | ⟨_, J4, d1, d2, e4⟩
      · rw [hr, hnr] at hr4; cases hr4
      have e4' : week_Or.f 1000100 l n = some ([⟨0, 10080⟩], 0) := by
        have : J4 = [(0, 10080)] := nrm_ext J4 _ (-1) (-1) d1 ⟨by decide, by decide, trivial⟩ (fun m => by
          rw [d2, hcn, had_one]
          cases hh : had (prs l) m with
          | true =>
            obtain ⟨u, v⟩ := had_week l hr m hh
            rw [decide_eq_true u, decide_eq_true v]; rfl
          | false => simp)
        rw [e4, this]; rfl
      have ht := tot_both l 0 (by omega) hn0 g2
      rw [hN] at ht
      have hw : wrap64 (tot l + tot n) = 10080 := by
        rw [show tot l + tot n = 10080 by omega]; unfold wrap64; omega
      have hl64 := g3
      simp only
      rw [if_pos True.intro, e2', Option.bind_some, e3', Option.bind_some, e4', Option.bind_some, sum_eq l hlen 1000100 (by omega), if_pos hr, Option.bind_some, sum_eq n hnlen 1000100 (by omega), if_pos hnr, Option.bind_some, make_self l hr 1000100 (by omega), Option.bind_some]
      simp only
      rw [if_pos True.intro, same_eq l (by omega) 1000100 (by omega), Option.bind_some, if_pos rfl, if_pos True.intro, if_pos (by rfl), if_pos True.intro, same_eq _ (by simp) 1000100 (by omega), Option.bind_some, if_pos rfl, if_pos True.intro, if_pos True.intro, hw, if_pos rfl, if_pos True.intro, Option.bind_some]
    · have ejn : jn J = ([], 12) := by unfold jn; rw [if_neg c]
      rw [ejn]; rfl
end Go.Proofs.Ytlnadfhhgcpkpaa.XW
namespace Go.Proofs.Ytlnadfhhgcpkpaa.Pure
theorem WeekTwice : XW.bellmanlaw07_WeekTwice.PureU := XW.pure_WeekTwice
end Go.Proofs.Ytlnadfhhgcpkpaa.Pure
