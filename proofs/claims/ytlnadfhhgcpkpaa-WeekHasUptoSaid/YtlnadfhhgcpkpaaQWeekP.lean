-- by a program of this session
import Derived.Laws.BitsLemmas
set_option linter.unusedVariables false
set_option linter.unusedSimpArgs false
/-! Ranges of a week, plain: pairs (From, To). -/
namespace Go.Proofs.Ytlnadfhhgcpkpaa.Wk
abbrev Rg := Int × Int
def had (l : List Rg) (m : Int) : Bool := l.any (fun x => decide (x.1 ≤ m) && decide (m < x.2))
def nrm : Int → List Rg → Prop
  | _, [] => True
  | last, x :: l => last < x.1 ∧ x.1 < x.2 ∧ nrm x.2 l
def lastTo : Int → List Rg → Int
  | a, [] => a
  | _, x :: l => lastTo x.2 l
theorem had_iff (l : List Rg) (m : Int) : had l m = true ↔ ∃ x ∈ l, x.1 ≤ m ∧ m < x.2 := by
  unfold had
  rw [List.any_eq_true]
  simp only [Bool.and_eq_true, decide_eq_true_eq]
theorem had_cons (x : Rg) (l : List Rg) (m : Int) : had (x :: l) m = ((decide (x.1 ≤ m) && decide (m < x.2)) || had l m) := rfl
theorem had_append (a b : List Rg) (m : Int) : had (a ++ b) m = (had a m || had b m) := by unfold had; rw [List.any_append]
theorem had_one (x : Rg) (m : Int) : had [x] m = (decide (x.1 ≤ m) && decide (m < x.2)) := by simp [had]
theorem had_nil (m : Int) : had [] m = false := rfl
theorem nrm_lb : ∀ (l : List Rg) (a : Int), nrm a l → ∀ x ∈ l, a < x.1
  | [], _, _, x, h => by simp at h
  | y :: l, a, hn, x, h => by
    rcases List.mem_cons.mp h with rfl | h
    · exact hn.1
    · have := nrm_lb l y.2 hn.2.2 x h
      have := hn.1
      have := hn.2.1
      omega
theorem nrm_ne : ∀ (l : List Rg) (a : Int), nrm a l → ∀ x ∈ l, x.1 < x.2
  | [], _, _, x, h => by simp at h
  | y :: l, a, hn, x, h => by
    rcases List.mem_cons.mp h with rfl | h
    · exact hn.2.1
    · exact nrm_ne l y.2 hn.2.2 x h
theorem had_lb (l : List Rg) (a : Int) (hn : nrm a l) (m : Int) (h : had l m = true) : a < m := by
  obtain ⟨x, hx, h1, _⟩ := (had_iff l m).mp h
  have := nrm_lb l a hn x hx
  omega
theorem had_ge (x : Rg) (l : List Rg) (a : Int) (hn : nrm a (x :: l)) (m : Int) (h : had (x :: l) m = true) : x.1 ≤ m := by
  rw [had_cons] at h
  by_cases c : x.1 ≤ m
  · exact c
  · rw [decide_eq_false c, Bool.false_and, Bool.false_or] at h
    have := had_lb l x.2 hn.2.2 m h
    have := hn.2.1
    omega
theorem had_to (x : Rg) (l : List Rg) (a : Int) (hn : nrm a (x :: l)) : had (x :: l) x.2 = false := by
  cases h : had (x :: l) x.2 with
  | false => rfl
  | true =>
    rw [had_cons, decide_eq_false (show ¬ x.2 < x.2 by omega), Bool.and_false, Bool.false_or] at h
    have := had_lb l x.2 hn.2.2 x.2 h
    omega
theorem had_tail (x : Rg) (l : List Rg) (a : Int) (hn : nrm a (x :: l)) (m : Int) : had l m = (decide (x.2 < m) && had (x :: l) m) := by
  rw [had_cons]
  by_cases c : x.2 < m
  · rw [decide_eq_true c, decide_eq_false (show ¬ m < x.2 by omega), Bool.and_false, Bool.false_or, Bool.true_and]
  · rw [decide_eq_false c, Bool.false_and]
    cases h : had l m with
    | false => rfl
    | true => exact absurd (had_lb l x.2 hn.2.2 m h) c
/-- Ranges that rise and do not touch are told by their minutes. -/
theorem nrm_ext : ∀ (w v : List Rg) (a b : Int), nrm a w → nrm b v → (∀ m, had w m = had v m) → w = v
  | [], [], _, _, _, _, _ => rfl
  | [], y :: v, _, _, _, hv, h => by
    have h1 := h y.1
    rw [had_cons, decide_eq_true (show y.1 ≤ y.1 by omega), decide_eq_true hv.2.1] at h1
    simp [had] at h1
  | x :: w, [], _, _, hw, _, h => by
    have h1 := h x.1
    rw [had_cons, decide_eq_true (show x.1 ≤ x.1 by omega), decide_eq_true hw.2.1] at h1
    simp [had] at h1
  | x :: w, y :: v, a, b, hw, hv, h => by
    have in1 : had (x :: w) x.1 = true := by rw [had_cons, decide_eq_true (show x.1 ≤ x.1 by omega), decide_eq_true hw.2.1]; rfl
    have in2 : had (y :: v) y.1 = true := by rw [had_cons, decide_eq_true (show y.1 ≤ y.1 by omega), decide_eq_true hv.2.1]; rfl
    have f1 := had_ge y v b hv x.1 (by rw [← h]; exact in1)
    have f2 := had_ge x w a hw y.1 (by rw [h]; exact in2)
    have e1 : x.1 = y.1 := by omega
    have t1 := had_to x w a hw
    have t2 := had_to y v b hv
    have hx := hw.2.1
    have hy := hv.2.1
    have g1 : ¬ x.2 < y.2 := fun c => by
      rw [h, had_cons, decide_eq_true (show y.1 ≤ x.2 by omega), decide_eq_true c] at t1
      simp at t1
    have g2 : ¬ y.2 < x.2 := fun c => by
      rw [← h, had_cons, decide_eq_true (show x.1 ≤ y.2 by omega), decide_eq_true c] at t2
      simp at t2
    have e2 : x.2 = y.2 := by omega
    have e : x = y := Prod.ext e1 e2
    subst e
    rw [nrm_ext w v x.2 x.2 hw.2.2 hv.2.2 (fun m => by rw [had_tail x w a hw, had_tail x v b hv, h])]
theorem lastTo_snoc (a : Int) (l : List Rg) (y : Rg) : lastTo a (l ++ [y]) = y.2 := by
  induction l generalizing a with
  | nil => rfl
  | cons x l ih => exact ih x.2
theorem nrm_snoc (a : Int) (l : List Rg) (y : Rg) : nrm a (l ++ [y]) ↔ nrm a l ∧ lastTo a l < y.1 ∧ y.1 < y.2 := by
  induction l generalizing a with
  | nil => simp [nrm, lastTo]
  | cons x l ih =>
    show (a < x.1 ∧ x.1 < x.2 ∧ nrm x.2 (l ++ [y])) ↔ (a < x.1 ∧ x.1 < x.2 ∧ nrm x.2 l) ∧ lastTo x.2 l < y.1 ∧ y.1 < y.2
    rw [ih]
    constructor
    · rintro ⟨h1, h2, h3, h4, h5⟩; exact ⟨⟨h1, h2, h3⟩, h4, h5⟩
    · rintro ⟨⟨h1, h2, h3⟩, h4, h5⟩; exact ⟨h1, h2, h3, h4, h5⟩
theorem nil_or_snoc (l : List Rg) : l = [] ∨ ∃ i y, l = i ++ [y] := by
  rcases List.eq_nil_or_concat l with h | ⟨i, y, h⟩
  · exact .inl h
  · exact .inr ⟨i, y, by rw [h, List.concat_eq_append]⟩
/-- A minute more, behind ranges that end there, or ahead of it. -/
def ext (out : List Rg) (i : Int) : List Rg :=
  match out.getLast? with
  | some y => if y.2 = i then out.dropLast ++ [(y.1, i + 1)] else out ++ [(i, i + 1)]
  | none => [(i, i + 1)]
def ofg : List Rg → Int → List Bool → List Rg
  | out, _, [] => out
  | out, i, b :: l => ofg (if b = true then ext out i else out) (i + 1) l
/-- A range more, that begins at none of those ahead of it. -/
def step (out : List Rg) (x : Rg) : List Rg :=
  if x.1 = x.2 then out else
  match out.getLast? with
  | some y => if x.1 ≤ y.2 then out.dropLast ++ [(y.1, max y.2 x.2)] else out ++ [x]
  | none => [x]
def joing (out : List Rg) (l : List Rg) : List Rg := l.foldl step out
theorem ext_nil (i : Int) : ext [] i = [(i, i + 1)] := rfl
theorem ext_snoc (l : List Rg) (y : Rg) (i : Int) : ext (l ++ [y]) i = if y.2 = i then l ++ [(y.1, i + 1)] else l ++ [y] ++ [(i, i + 1)] := by
  unfold ext
  rw [List.getLast?_concat, List.dropLast_concat]
theorem step_nil (x : Rg) : step [] x = if x.1 = x.2 then [] else [x] := rfl
theorem step_snoc (l : List Rg) (y x : Rg) : step (l ++ [y]) x = if x.1 = x.2 then l ++ [y] else if x.1 ≤ y.2 then l ++ [(y.1, max y.2 x.2)] else l ++ [y] ++ [x] := by
  unfold step
  rw [List.getLast?_concat, List.dropLast_concat]
theorem and_or_to (a b c : Bool) : ((a && b) || (a && c)) = (a && (b || c)) := by cases a <;> simp
theorem ext_inv (out : List Rg) (n : Int) (p : Int → Bool) (h0 : 0 ≤ n) (h1 : nrm (-1) out) (h2 : lastTo (-1) out ≤ n) (h3 : ∀ m, had out m = (decide (0 ≤ m) && decide (m < n) && p m)) (hb : p n = true) :
    nrm (-1) (ext out n) ∧ lastTo (-1) (ext out n) ≤ n + 1 ∧ ∀ m, had (ext out n) m = (decide (0 ≤ m) && decide (m < n + 1) && p m) := by
  have key : ∀ m : Int, (decide (0 ≤ m) && decide (m < n + 1) && p m) = ((decide (0 ≤ m) && decide (m < n) && p m) || (decide (n ≤ m) && decide (m < n + 1))) := by
    intro m
    by_cases c : m = n
    · subst c
      rw [hb, decide_eq_true h0, decide_eq_true (show m < m + 1 by omega), decide_eq_true (show m ≤ m by omega)]; simp
    · by_cases c2 : m < n
      · rw [decide_eq_true (show m < n + 1 by omega), decide_eq_true c2, decide_eq_false (show ¬ n ≤ m by omega)]; simp
      · rw [decide_eq_false (show ¬ m < n + 1 by omega), decide_eq_false c2]; simp
  rcases nil_or_snoc out with rfl | ⟨l, y, rfl⟩
  · rw [ext_nil]
    refine ⟨⟨by show (-1 : Int) < n; omega, by show n < n + 1; omega, trivial⟩, by show n + 1 ≤ n + 1; omega, fun m => ?_⟩
    rw [key, ← h3 m, had_one, had_nil, Bool.false_or]
  · rw [lastTo_snoc] at h2
    obtain ⟨g1, g2, g3⟩ := (nrm_snoc _ _ _).mp h1
    rw [ext_snoc]
    by_cases c : y.2 = n
    · rw [if_pos c]
      refine ⟨(nrm_snoc _ _ _).mpr ⟨g1, g2, by show y.1 < n + 1; omega⟩, by rw [lastTo_snoc]; show n + 1 ≤ n + 1; omega, fun m => ?_⟩
      rw [key, ← h3 m, had_append, had_append, had_one, had_one, Bool.or_assoc]
      congr 1
      show (decide (y.1 ≤ m) && decide (m < n + 1)) = _
      by_cases d : m < n
      · rw [decide_eq_true (show m < n + 1 by omega), decide_eq_true (show m < y.2 by omega), decide_eq_false (show ¬ n ≤ m by omega)]; simp
      · by_cases d2 : m = n
        · rw [decide_eq_true (show m < n + 1 by omega), decide_eq_true (show y.1 ≤ m by omega), decide_eq_true (show n ≤ m by omega)]; simp
        · rw [decide_eq_false (show ¬ m < n + 1 by omega), decide_eq_false (show ¬ m < y.2 by omega)]; simp
    · rw [if_neg c]
      refine ⟨(nrm_snoc _ _ _).mpr ⟨h1, by rw [lastTo_snoc]; show y.2 < n; omega, by show n < n + 1; omega⟩, by rw [lastTo_snoc]; show n + 1 ≤ n + 1; omega, fun m => ?_⟩
      rw [key, ← h3 m, had_append _ [(n, n + 1)], had_one]
theorem ofg_inv (p : Int → Bool) : ∀ (bs : List Bool) (out : List Rg) (n : Int), 0 ≤ n → nrm (-1) out → lastTo (-1) out ≤ n → (∀ m, had out m = (decide (0 ≤ m) && decide (m < n) && p m)) → (∀ (j : Nat) (h : j < bs.length), bs[j] = p (n + j)) →
    nrm (-1) (ofg out n bs) ∧ lastTo (-1) (ofg out n bs) ≤ n + bs.length ∧ ∀ m, had (ofg out n bs) m = (decide (0 ≤ m) && decide (m < n + bs.length) && p m)
  | [], out, n, h0, h1, h2, h3, _ => by
    have z : n + ((([] : List Bool).length : Nat) : Int) = n := by simp
    have e : ofg out n [] = out := rfl
    rw [z, e]
    exact ⟨h1, h2, h3⟩
  | b :: bs, out, n, h0, h1, h2, h3, hb => by
    have hb0 : b = p n := by
      have := hb 0 (by simp)
      simpa using this
    have hbs : ∀ (j : Nat) (h : j < bs.length), bs[j] = p (n + 1 + j) := fun j h => by
      have := hb (j + 1) (by simp; omega)
      rw [List.getElem_cons_succ] at this
      rw [this]; congr 1; omega
    have e : n + ((b :: bs).length : Int) = n + 1 + (bs.length : Int) := by rw [List.length_cons]; omega
    rw [e]
    show nrm (-1) (ofg (if b = true then ext out n else out) (n + 1) bs) ∧ lastTo (-1) (ofg (if b = true then ext out n else out) (n + 1) bs) ≤ _ ∧ ∀ m, had (ofg (if b = true then ext out n else out) (n + 1) bs) m = _
    by_cases c : b = true
    · rw [if_pos c]
      obtain ⟨g1, g2, g3⟩ := ext_inv out n p h0 h1 h2 h3 (by rw [← hb0, c])
      exact ofg_inv p bs _ (n + 1) (by omega) g1 g2 g3 hbs
    · rw [if_neg c]
      refine ofg_inv p bs _ (n + 1) (by omega) h1 (by omega) (fun m => ?_) hbs
      rw [h3]
      by_cases d : m = n
      · subst d
        have hp : p m = false := by rw [← hb0]; simpa using c
        rw [hp]; simp
      · by_cases d2 : m < n
        · rw [decide_eq_true d2, decide_eq_true (show m < n + 1 by omega)]
        · rw [decide_eq_false d2, decide_eq_false (show ¬ m < n + 1 by omega)]
/-- Ranges that are looked at one behind the other, each beginning no sooner. -/
theorem step_inv (out : List Rg) (x : Rg) (h1 : nrm (-1) out) (h2 : ∀ y ∈ out, y.1 ≤ x.1) (hx : 0 ≤ x.1) (hxx : x.1 ≤ x.2) :
    nrm (-1) (step out x) ∧ (∀ m, had (step out x) m = (had out m || had [x] m)) ∧ ∀ y ∈ step out x, y.1 ≤ x.1 := by
  rcases nil_or_snoc out with rfl | ⟨l, y, rfl⟩
  · rw [step_nil]
    by_cases c : x.1 = x.2
    · rw [if_pos c]
      refine ⟨trivial, fun m => ?_, by simp⟩
      rw [had_nil, had_one, Bool.false_or]
      by_cases d : m < x.2
      · rw [decide_eq_false (show ¬ x.1 ≤ m by omega)]; rfl
      · rw [decide_eq_false d, Bool.and_false]
    · rw [if_neg c]
      refine ⟨⟨by omega, by omega, trivial⟩, fun m => by rw [had_nil, Bool.false_or], fun y hy => by rw [List.mem_singleton] at hy; rw [hy]; omega⟩
  · rw [step_snoc]
    obtain ⟨g1, g2, g3⟩ := (nrm_snoc _ _ _).mp h1
    have hyx := h2 y (by simp)
    by_cases c : x.1 = x.2
    · rw [if_pos c]
      refine ⟨h1, fun m => ?_, h2⟩
      rw [had_one]
      by_cases d : m < x.2
      · rw [decide_eq_false (show ¬ x.1 ≤ m by omega)]; simp
      · rw [decide_eq_false d]; simp
    · rw [if_neg c]
      by_cases c2 : x.1 ≤ y.2
      · rw [if_pos c2]
        have hm1 : y.2 ≤ max y.2 x.2 := Int.le_max_left _ _
        have hm2 : x.2 ≤ max y.2 x.2 := Int.le_max_right _ _
        have hm3 : max y.2 x.2 = y.2 ∨ max y.2 x.2 = x.2 := by
          rcases Int.le_total y.2 x.2 with h | h
          · right; exact Int.max_eq_right h
          · left; exact Int.max_eq_left h
        refine ⟨(nrm_snoc _ _ _).mpr ⟨g1, g2, by show y.1 < max y.2 x.2; omega⟩, fun m => ?_, fun z hz => ?_⟩
        · rw [had_append, had_append, had_one, had_one, had_one, Bool.or_assoc]
          congr 1
          show (decide (y.1 ≤ m) && decide (m < max y.2 x.2)) = _
          generalize max y.2 x.2 = M at *
          by_cases d1 : y.1 ≤ m
          · by_cases d2 : m < y.2
            · rw [decide_eq_true d1, decide_eq_true d2, decide_eq_true (show m < M by omega)]; simp
            · by_cases d3 : m < x.2
              · rw [decide_eq_true d1, decide_eq_true d3, decide_eq_true (show m < M by omega), decide_eq_true (show x.1 ≤ m by omega)]; simp
              · rw [decide_eq_false d2, decide_eq_false d3, decide_eq_false (show ¬ m < M by omega)]; simp
          · rw [decide_eq_false d1, decide_eq_false (show ¬ x.1 ≤ m by omega)]; simp
        · rcases List.mem_append.mp hz with hz | hz
          · exact h2 z (by simp [hz])
          · rw [List.mem_singleton] at hz; rw [hz]; exact hyx
      · rw [if_neg c2]
        refine ⟨(nrm_snoc _ _ _).mpr ⟨h1, by rw [lastTo_snoc]; omega, by omega⟩, fun m => by rw [had_append _ [x]], fun z hz => ?_⟩
        rcases List.mem_append.mp hz with hz | hz
        · exact h2 z hz
        · rw [List.mem_singleton] at hz; rw [hz]; omega
theorem joing_inv : ∀ (l out : List Rg), nrm (-1) out → (∀ y ∈ out, ∀ x ∈ l, y.1 ≤ x.1) → l.Pairwise (fun a b => a.1 ≤ b.1) → (∀ x ∈ l, 0 ≤ x.1 ∧ x.1 ≤ x.2) →
    nrm (-1) (joing out l) ∧ ∀ m, had (joing out l) m = (had out m || had l m)
  | [], out, h1, _, _, _ => ⟨h1, fun m => by rw [had_nil, Bool.or_false]; rfl⟩
  | x :: l, out, h1, h2, h3, h4 => by
    have hx := h4 x List.mem_cons_self
    obtain ⟨g1, g2, g3⟩ := step_inv out x h1 (fun y hy => h2 y hy x List.mem_cons_self) hx.1 hx.2
    rw [List.pairwise_cons] at h3
    obtain ⟨k1, k2⟩ := joing_inv l (step out x) g1 (fun y hy z hz => by
      have a1 := g3 y hy
      have a2 := h3.1 z hz
      omega) h3.2 (fun z hz => h4 z (List.mem_cons_of_mem _ hz))
    refine ⟨k1, fun m => ?_⟩
    show had (joing (step out x) l) m = _
    rw [k2, g2, Bool.or_assoc, ← had_append [x] l]
    rfl
end Go.Proofs.Ytlnadfhhgcpkpaa.Wk
