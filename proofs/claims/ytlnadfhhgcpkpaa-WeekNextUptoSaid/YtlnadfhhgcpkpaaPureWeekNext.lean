/- For every list of ranges, two numbers and a bool within the bound: the next minute that is had is had, and none ahead of it is; likewise the next one that is not. -/
import Derived.Test.YtlnadfhhgcpkpaaUWeekNext
import Derived.Test.YtlnadfhhgcpkpaaQWeekN
import Derived.Test.YtlnadfhhgcpkpaaQWeekLives
set_option linter.unusedVariables false
set_option linter.unusedSimpArgs false
namespace Go.Proofs.Ytlnadfhhgcpkpaa.XW
open Go.RowKit Go.Proofs.YtlnadfhhgcpkpaaW.PrintWords Go.Proofs.YtlnadfhhgcpkpaaW.PrintLast Go.Proofs.YtlnadfhhgcpkpaaW.PrintMore Go.Proofs.Ytlnadfhhgcpkpaa.Wk
theorem sum_ones {α : Type} (l : List α) : (l.map (fun _ => ((1 + 1) + 1))).sum = 3 * l.length := by
  induction l with
  | nil => rfl
  | cons x l ih => rw [List.map_cons, List.sum_cons, ih, List.length_cons]; omega
theorem tmod_pos (x : Int) (h : 0 ≤ x) : Int.tmod x 10080 = x % 10080 := by
  rw [Int.tmod_eq_emod_of_nonneg h]
theorem next_j0 (l : List Sg) (hl : l.length ≤ 1000000) (hr : rightB l = true) (n some_ d : Int) (b : Bool) (h0 : 0 ≤ n) (h1 : n < 10080) (d1 : d < 10080) (hd : ∀ e, 0 ≤ e → e < d → had (prs l) ((n + e) % 10080) = !b) (k : Nat) (hk : 1000010 ≤ k) :
    bellmanlaw07_WeekNext.j0 (k + 1) l n some_ b d false = some true := by
  rw [bellmanlaw07_WeekNext.j0, if_neg (by decide)]
  by_cases c1 : some_ < 0
  · rw [if_pos c1]
  · rw [if_neg c1]
    by_cases c2 : some_ ≥ d
    · rw [if_pos c2]
    · rw [if_neg c2]
      have hw : wrap64 (n + some_) = n + some_ := by unfold wrap64; omega
      rw [hw, tmod_pos _ (by omega), has_eq l hl _ k hk, if_pos hr, if_pos ⟨by omega, by omega⟩, Option.bind_some]
      simp only
      rw [if_pos True.intro, hd some_ (by omega) (by omega)]
      cases b <;> rfl
theorem pure_WeekNext : bellmanlaw07_WeekNext.PureU := by
  intro l n some_ b hl hn hs hsz
  rw [sum_ones] at hsz
  have hlen : l.length ≤ 1000000 := by omega
  refine ⟨1000100, ?_⟩
  unfold bellmanlaw07_WeekNext.f
  rw [lives_ok 1000100 (by omega), Option.bind_some, if_pos rfl]
  rcases next_eq l hlen n b 1000100 (by omega) with ⟨hr, e⟩ | ⟨hr, hno, e⟩ | ⟨hr, h0, h1, hsk, e⟩ | ⟨hr, h0, h1, d, d0, d1, hd, hd2, e⟩
  · rw [e, Option.bind_some, sum_eq l hlen 1000100 (by omega), hr, Option.bind_some]
    rfl
  · rw [e, Option.bind_some, sum_eq l hlen 1000100 (by omega), hr, Option.bind_some]
    rfl
  · rw [e, Option.bind_some, sum_eq l hlen 1000100 (by omega), if_pos hr, Option.bind_some]
    simp only
    rw [if_neg (by decide), if_pos True.intro, if_pos True.intro, if_pos True.intro]
    obtain ⟨g1, g2, _⟩ := right_nrm l hr
    cases b with
    | true =>
      have : l = [] := by simpa [seek] using hsk
      subst this
      rw [if_pos rfl, if_pos (by rfl)]
    | false =>
      have : compl 0 l = [] := by simpa [seek] using hsk
      rw [if_neg (by decide), tot_compl l g1 g2 this]
      rfl
  · rw [e, Option.bind_some]
    simp only
    have hw : wrap64 (n + d) = n + d := by unfold wrap64; omega
    rw [if_pos True.intro, hw, tmod_pos _ (by omega), has_eq l hlen _ 1000100 (by omega), if_pos hr, if_pos ⟨by omega, by omega⟩, Option.bind_some]
    simp only
    rw [if_pos True.intro, hd]
    have hb : ¬ ((b != b) = true) := by cases b <;> decide
    rw [if_neg hb, if_neg (by omega), decide_eq_false (by omega)]
    exact next_j0 l hlen hr n some_ d b h0 h1 d1 hd2 1000099 (by omega)
end Go.Proofs.Ytlnadfhhgcpkpaa.XW
namespace Go.Proofs.Ytlnadfhhgcpkpaa.Pure
theorem WeekNext : XW.bellmanlaw07_WeekNext.PureU := XW.pure_WeekNext
end Go.Proofs.Ytlnadfhhgcpkpaa.Pure
