-- by a program of this session
import Derived.Test.YtlnadfhhgcpkpaaQWeekP
import Derived.Test.YtlnadfhhgcpkpaaXW7
import Derived.Test.YtlnadfhhgcpkpaaXW3
import Derived.Test.YtlnadfhhgcpkpaaXW4
import Derived.Test.YtlnadfhhgcpkpaaXW14
import Derived.Test.YtlnadfhhgcpkpaaXW10
import Derived.Test.YtlnadfhhgcpkpaaXW12
import Derived.Test.YtlnadfhhgcpkpaaXW13
set_option linter.unusedVariables false
set_option linter.unusedSimpArgs false
/-! The program's functions of weeks answer as the plain theory says. -/
namespace Go.Proofs.Ytlnadfhhgcpkpaa.XW
open Go.RowKit Go.Proofs.YtlnadfhhgcpkpaaW.PrintWords Go.Proofs.YtlnadfhhgcpkpaaW.PrintLast Go.Proofs.YtlnadfhhgcpkpaaW.PrintMore Go.Proofs.Ytlnadfhhgcpkpaa.Wk
abbrev Sg := S38
def pr (x : Sg) : Rg := (x.f0, x.f1)
def mk (x : Rg) : Sg := ⟨x.1, x.2⟩
def prs (l : List Sg) : List Rg := l.map pr
theorem mk_prs (l : List Sg) : (prs l).map mk = l := by unfold prs; rw [List.map_map]; exact List.map_id' l
theorem prs_mk (l : List Rg) : prs (l.map mk) = l := by unfold prs; rw [List.map_map]; exact List.map_id' l
theorem prs_len (l : List Sg) : (prs l).length = l.length := List.length_map _
theorem prs_get (l : List Sg) (i : Nat) (h : i < (prs l).length) (h' : i < l.length) : (prs l)[i] = pr l[i] := List.getElem_map _
theorem prs_cons (x : Sg) (l : List Sg) : prs (x :: l) = pr x :: prs l := rfl
theorem prs_append (a b : List Sg) : prs (a ++ b) = prs a ++ prs b := List.map_append
theorem wrap_k (i : Nat) (h : i ≤ 9000000000000000000) : wrap64 ((i : Int) + 1) = ((i + 1 : Nat) : Int) := by unfold wrap64; omega
theorem rd_eq (l : List Sg) (i : Nat) (h : i < l.length) : rd_T38 l (i : Int) = l[i] := by
  unfold rd_T38
  rw [Int.toNat_natCast, List.getD_eq_getElem?_getD, List.getElem?_eq_getElem h]
  rfl
theorem mx_eq (a b : Int) : mx a b = max a b := by
  unfold mx
  by_cases h : a < b
  · rw [if_pos h, Int.max_eq_right (by omega)]
  · rw [if_neg h, Int.max_eq_left (by omega)]
/-! ### Right weeks -/
def okB : Int → List Sg → Bool
  | _, [] => true
  | last, x :: l => decide (last < x.f0) && (decide (x.f0 < x.f1) && (decide (x.f1 ≤ 10080) && okB x.f1 l))
def rightB (l : List Sg) : Bool := okB (-1) l && decide (l.length ≤ 64)
theorem okB_nrm : ∀ (l : List Sg) (a : Int), okB a l = true → nrm a (prs l) ∧ ∀ x ∈ l, x.f1 ≤ 10080
  | [], _, _ => ⟨trivial, by simp⟩
  | x :: l, a, h => by
    simp only [okB, Bool.and_eq_true, decide_eq_true_eq] at h
    obtain ⟨h1, h2, h3, h4⟩ := h
    obtain ⟨g1, g2⟩ := okB_nrm l x.f1 h4
    refine ⟨⟨h1, h2, g1⟩, fun y hy => ?_⟩
    rcases List.mem_cons.mp hy with rfl | hy
    · exact h3
    · exact g2 y hy
theorem nrm_okB : ∀ (l : List Sg) (a : Int), nrm a (prs l) → (∀ x ∈ l, x.f1 ≤ 10080) → okB a l = true
  | [], _, _, _ => rfl
  | x :: l, a, h, hb => by
    obtain ⟨h1, h2, h3⟩ := h
    have := nrm_okB l x.f1 h3 (fun y hy => hb y (List.mem_cons_of_mem _ hy))
    simp only [okB, Bool.and_eq_true, decide_eq_true_eq]
    exact ⟨h1, h2, hb x List.mem_cons_self, this⟩
theorem check_l0 (l : List Sg) (hl : l.length ≤ 1000000) : ∀ (m k i : Nat) (last : Int), i + m = l.length → m + 1 ≤ k → week_Check.l0 k l last l (l.length : Int) (i : Int) = some (if (okB last (l.drop i) && decide (l.length ≤ 64)) = true then 0 else 2)
  | 0, k, i, last, h, hk => by
    obtain ⟨k, rfl⟩ : ∃ m, k = m + 1 := ⟨k - 1, by omega⟩
    rw [week_Check.l0, if_neg (by omega), List.drop_of_length_le (by omega)]
    by_cases c : l.length ≤ 64
    · rw [if_neg (by omega), decide_eq_true c]; rfl
    · rw [if_pos (by omega), decide_eq_false c]; rfl
  | m + 1, k, i, last, h, hk => by
    obtain ⟨k, rfl⟩ : ∃ m, k = m + 1 := ⟨k - 1, by omega⟩
    have hi : i < l.length := by omega
    rw [week_Check.l0, if_pos (by omega), if_pos (by omega), if_pos (by omega), rd_eq l i hi, List.drop_eq_getElem_cons hi, okB]
    by_cases c1 : last < l[i].f0
    · rw [if_neg (by omega), decide_eq_true c1]
      by_cases c2 : l[i].f0 < l[i].f1
      · rw [if_neg (by omega), decide_eq_true c2]
        by_cases c3 : l[i].f1 ≤ 10080
        · rw [if_neg (by omega), decide_eq_true c3, wrap_k i (by omega)]
          simp only [Bool.true_and]
          exact check_l0 l hl m k (i + 1) l[i].f1 (by omega) (by omega)
        · rw [if_pos (by omega), decide_eq_false c3]; rfl
      · rw [if_pos (by omega), decide_eq_false c2]; rfl
    · rw [if_pos (by omega), decide_eq_false c1]; rfl
theorem check_eq (l : List Sg) (hl : l.length ≤ 1000000) (k : Nat) (hk : 1000010 ≤ k) : week_Check.f k l = some (if rightB l = true then 0 else 2) :=
  check_l0 l hl l.length k 0 (-1) (by omega) (by omega)
theorem check_small (l : List Sg) (hl : l.length ≤ 200) (k : Nat) (hk : 300 ≤ k) : week_Check.f k l = some (if rightB l = true then 0 else 2) :=
  check_l0 l (by omega) l.length k 0 (-1) (by omega) (by omega)
theorem right_nrm (l : List Sg) (h : rightB l = true) : nrm (-1) (prs l) ∧ (∀ x ∈ l, x.f1 ≤ 10080) ∧ l.length ≤ 64 := by
  unfold rightB at h
  simp only [Bool.and_eq_true, decide_eq_true_eq] at h
  obtain ⟨h1, h2⟩ := okB_nrm l (-1) h.1
  exact ⟨h1, h2, h.2⟩
/-! ### Putting ranges together -/
def jn (J : List Rg) : List Sg × Int := if J.length ≤ 64 then (J.map mk, 0) else ([], 12)
theorem join_l0 (ls : List Sg) (hl : ls.length ≤ 1000) : ∀ (m k i : Nat) (out : List Rg), i + m = ls.length → m + 1 ≤ k → out.length ≤ i → week_join.l0 k (out.map mk) ls (ls.length : Int) (i : Int) = some (jn (joing out ((prs ls).drop i)))
  | 0, k, i, out, h, hk, ho => by
    obtain ⟨k, rfl⟩ : ∃ m, k = m + 1 := ⟨k - 1, by omega⟩
    rw [week_join.l0, if_neg (by omega), List.drop_of_length_le (by rw [prs_len]; omega)]
    unfold jn joing
    rw [List.foldl_nil, List.length_map]
    by_cases c : out.length ≤ 64
    · rw [if_neg (by omega), if_pos c]
    · rw [if_pos (by omega), if_neg c]
  | m + 1, k, i, out, h, hk, ho => by
    obtain ⟨k, rfl⟩ : ∃ m, k = m + 1 := ⟨k - 1, by omega⟩
    have hi : i < ls.length := by omega
    have hd : (prs ls).drop i = pr ls[i] :: (prs ls).drop (i + 1) := by
      rw [List.drop_eq_getElem_cons (by rw [prs_len]; exact hi)]
      unfold prs
      rw [List.getElem_map]
    have hj : joing out ((prs ls).drop i) = joing (Wk.step out (pr ls[i])) ((prs ls).drop (i + 1)) := by rw [hd]; rfl
    rw [week_join.l0, if_pos (by omega), if_pos (by omega), if_pos (by omega), rd_eq ls i hi, hj, wrap_k i (by omega)]
    generalize ls[i] = x
    by_cases c1 : x.f0 = x.f1
    · have hs : Wk.step out (pr x) = out := by
        unfold Wk.step
        rw [if_pos (show (pr x).1 = (pr x).2 from c1)]
      rw [if_pos c1, hs]
      exact join_l0 ls hl m k (i + 1) out (by omega) (by omega) (by omega)
    · rw [if_neg c1]
      rcases nil_or_snoc out with rfl | ⟨l, y, rfl⟩
      · have hw : wrap64 ((([] : List Rg).map mk).length - 1) = -1 := by unfold wrap64; simp
        rw [hw, if_neg (by decide), if_pos (by simp), step_nil, if_neg (show ¬ (pr x).1 = (pr x).2 from c1)]
        exact join_l0 ls hl m k (i + 1) [pr x] (by omega) (by omega) (by simp)
      · rw [List.length_append, List.length_singleton] at ho
        have hlen : ((l ++ [y]).map mk).length = l.length + 1 := by simp
        have hw : wrap64 ((((l ++ [y]).map mk).length : Int) - 1) = (l.length : Int) := by rw [hlen]; unfold wrap64; omega
        have hrd : rd_T38 ((l ++ [y]).map mk) (l.length : Int) = mk y := by
          rw [rd_eq _ _ (by rw [hlen]; omega), List.getElem_map]
          congr 1
          simp
        rw [hw, if_pos (by omega), if_pos (by omega), if_pos (by rw [hlen]; omega), hrd, step_snoc, if_neg (show ¬ (pr x).1 = (pr x).2 from c1)]
        by_cases c2 : x.f0 ≤ y.2
        · have hset : ((l ++ [y]).map mk).set ((l.length : Int)).toNat (⟨(mk y).f0, mx (mk y).f1 x.f1⟩ : S38) = (l ++ [(y.1, max y.2 x.f1)]).map mk := by
            rw [Int.toNat_natCast, List.map_append, List.map_append, List.set_append_right _ _ (by simp), mx_eq]
            simp [mk]
          rw [if_pos (show x.f0 ≤ (mk y).f1 from c2), if_pos (show (pr x).1 ≤ y.2 from c2), hset]
          exact join_l0 ls hl m k (i + 1) _ (by omega) (by omega) (by rw [List.length_append, List.length_singleton]; omega)
        · have ha : (l ++ [y]).map mk ++ [(⟨x.f0, x.f1⟩ : S38)] = (l ++ [y] ++ [pr x]).map mk := by rw [List.map_append (l₁ := l ++ [y])]; rfl
          rw [if_neg (show ¬ x.f0 ≤ (mk y).f1 from c2), if_neg (show ¬ (pr x).1 ≤ y.2 from c2), if_pos (by rw [hlen]; omega), ha]
          exact join_l0 ls hl m k (i + 1) _ (by omega) (by omega) (by rw [List.length_append, List.length_append, List.length_singleton, List.length_singleton]; omega)
theorem srt_perm (l : List Sg) : (week_S.srt l).Perm l := by
  unfold week_S.srt
  by_cases c : l.length = 0
  · rw [if_pos c, List.eq_nil_of_length_eq_zero c]
  · rw [if_neg c]
    obtain ⟨⟨h1, _, h3⟩, _⟩ := week_S.sorts l
    have e1 : (week_S.pdq l).extract 0 l.toArray.size = week_S.pdq l := by rw [← h1]; exact Array.extract_size
    have e2 : l.toArray.extract 0 l.toArray.size = l.toArray := Array.extract_size
    rw [e1, e2] at h3
    exact h3
theorem srt_sorted (l : List Sg) : (prs (week_S.srt l)).Pairwise (fun a b => a.1 ≤ b.1) := by
  letI : Inhabited Sg := ⟨z38⟩
  unfold week_S.srt
  by_cases c : l.length = 0
  · rw [if_pos c]; exact List.Pairwise.nil
  · rw [if_neg c]
    obtain ⟨⟨h1, _, _⟩, h4⟩ := week_S.sorts l
    refine List.pairwise_iff_getElem.mpr fun i j hi hj hij => ?_
    rw [prs_len, Array.length_toList] at hi hj
    have h := h4 i j (Nat.zero_le _) hij (by rw [← h1]; exact hj)
    rw [week_S.lt_eq, getElem!_pos (week_S.pdq l) j hj, getElem!_pos (week_S.pdq l) i hi, decide_eq_false_iff_not] at h
    rw [prs_get _ _ _ (by rw [Array.length_toList]; exact hi), prs_get _ _ _ (by rw [Array.length_toList]; exact hj), Array.getElem_toList, Array.getElem_toList]
    show (week_S.pdq l)[i].f0 ≤ (week_S.pdq l)[j].f0
    omega
theorem had_perm {a b : List Sg} (h : a.Perm b) (m : Int) : had (prs a) m = had (prs b) m := by
  rw [Bool.eq_iff_iff, had_iff, had_iff]
  unfold prs
  constructor
  · rintro ⟨x, hx, h2⟩
    obtain ⟨y, hy, rfl⟩ := List.mem_map.mp hx
    exact ⟨pr y, List.mem_map.mpr ⟨y, h.mem_iff.mp hy, rfl⟩, h2⟩
  · rintro ⟨x, hx, h2⟩
    obtain ⟨y, hy, rfl⟩ := List.mem_map.mp hx
    exact ⟨pr y, List.mem_map.mpr ⟨y, h.mem_iff.mpr hy, rfl⟩, h2⟩
theorem join_eq (l : List Sg) (hl : l.length ≤ 1000) (hb : ∀ x ∈ l, 0 ≤ x.f0 ∧ x.f0 ≤ x.f1) (k : Nat) (hk : 1100 ≤ k) : ∃ J : List Rg, nrm (-1) J ∧ (∀ m, had J m = had (prs l) m) ∧ week_join.f k l = some (jn J) := by
  have hp := srt_perm l
  have hlen := hp.length_eq
  obtain ⟨h1, h2⟩ := joing_inv (prs (week_S.srt l)) [] trivial (by simp) (srt_sorted l) (fun x hx => by
    obtain ⟨y, hy, rfl⟩ := List.mem_map.mp hx
    exact hb y (hp.mem_iff.mp hy))
  refine ⟨joing [] (prs (week_S.srt l)), h1, fun m => by rw [h2, had_nil, Bool.false_or, had_perm hp], ?_⟩
  unfold week_join.f api_Range_39.f
  rw [if_pos (by omega), Option.bind_some]
  unfold week_join.g
  have h := join_l0 (week_S.srt l) (by omega) (week_S.srt l).length k 0 [] (by omega) (by omega) (by simp)
  rw [List.drop_zero] at h
  exact h
theorem jn_bind (p : Option (List Sg × Int)) (q : List Sg × Int) (h : p = some q) : (p.bind fun bt => some (bt.1, bt.2)) = some q := by rw [h]; rfl
/-- What is put together ends within the week. -/
theorem had_bound (J : List Rg) (a : Int) (hn : nrm a J) (M : Int) (h : ∀ m, had J m = true → m < M) : ∀ x ∈ J, x.2 ≤ M := by
  intro x hx
  have h1 := nrm_ne J a hn x hx
  have := h (x.2 - 1) ((had_iff J _).mpr ⟨x, hx, by omega, by omega⟩)
  omega
theorem jn_right (J : List Rg) (hn : nrm (-1) J) (h : ∀ m, had J m = true → m < 10080) (hl : J.length ≤ 64) : rightB (J.map mk) = true := by
  unfold rightB
  rw [nrm_okB _ _ (by rw [prs_mk]; exact hn) (fun x hx => by
    obtain ⟨y, hy, rfl⟩ := List.mem_map.mp hx
    exact had_bound J (-1) hn 10080 h y hy), List.length_map, decide_eq_true hl]
  rfl
/-! ### Make -/
def inB (x : Sg) (m : Int) : Bool := if x.f0 ≤ x.f1 then decide (x.f0 ≤ m) && decide (m < x.f1) else decide (x.f0 ≤ m) || decide (m < x.f1)
def exp1 (x : Sg) : List Sg := if x.f0 > x.f1 then [⟨x.f0, 10080⟩, ⟨0, x.f1⟩] else [x]
def expd (l : List Sg) : List Sg := l.flatMap exp1
theorem exp1_len (x : Sg) : (exp1 x).length ≤ 2 := by unfold exp1; split <;> simp
theorem expd_len (l : List Sg) : (expd l).length ≤ 2 * l.length := by
  induction l with
  | nil => simp [expd]
  | cons x l ih =>
    have := exp1_len x
    have e : expd (x :: l) = exp1 x ++ expd l := rfl
    rw [e, List.length_append, List.length_cons]; omega
theorem make_l0 (l : List Sg) (hl : l.length ≤ 64) : ∀ (m k i : Nat) (out : List Sg), i + m = l.length → m + 1200 ≤ k → out.length ≤ 2 * i → ∃ k', 1100 ≤ k' ∧ week_Make.l0 k out l (l.length : Int) (i : Int) = (week_join.f k' (out ++ expd (l.drop i))).bind fun bt => some (bt.1, bt.2)
  | 0, k, i, out, h, hk, ho => by
    obtain ⟨k, rfl⟩ : ∃ m, k = m + 1 := ⟨k - 1, by omega⟩
    refine ⟨k, by omega, ?_⟩
    rw [week_Make.l0, if_neg (by omega), List.drop_of_length_le (by omega)]
    simp [expd]
  | m + 1, k, i, out, h, hk, ho => by
    obtain ⟨k, rfl⟩ : ∃ m, k = m + 1 := ⟨k - 1, by omega⟩
    have hi : i < l.length := by omega
    have e : ∀ o : List Sg, o ++ expd (l.drop i) = o ++ exp1 l[i] ++ expd (l.drop (i + 1)) := by
      intro o
      rw [List.drop_eq_getElem_cons hi, List.append_assoc]; rfl
    rw [week_Make.l0, if_pos (by omega), if_pos (by omega), if_pos (by omega), rd_eq l i hi, wrap_k i (by omega), e]
    generalize l[i] = x
    by_cases c : x.f0 > x.f1
    · have e1 : exp1 x = [⟨x.f0, 10080⟩, ⟨0, x.f1⟩] := if_pos c
      rw [if_pos c, Option.bind_some, if_pos (by simp; omega), e1]
      exact make_l0 l hl m k (i + 1) _ (by omega) (by omega) (by rw [List.length_append]; simp; omega)
    · have e1 : exp1 x = [x] := if_neg c
      rw [if_neg c, if_pos (by omega), e1]
      exact make_l0 l hl m k (i + 1) _ (by omega) (by omega) (by rw [List.length_append]; simp; omega)
theorem exp1_had (x : Sg) (h : week_R.off x = false) (m : Int) : had (prs (exp1 x)) m = (decide (0 ≤ m) && decide (m < 10080) && inB x m) ∧ ∀ y ∈ exp1 x, 0 ≤ y.f0 ∧ y.f0 ≤ y.f1 := by
  unfold week_R.off at h
  simp only [Bool.or_eq_false_iff, decide_eq_false_iff_not] at h
  obtain ⟨h1, h2, h3, h4⟩ := h
  unfold exp1 inB
  by_cases c : x.f0 > x.f1
  · rw [if_pos c, if_neg (by omega)]
    refine ⟨?_, fun y hy => ?_⟩
    · rw [Bool.eq_iff_iff]
      simp [had, prs, pr]
      omega
    · simp at hy
      rcases hy with rfl | rfl
      · exact ⟨by show 0 ≤ x.f0; omega, by show x.f0 ≤ 10080; omega⟩
      · exact ⟨by show (0 : Int) ≤ 0; omega, by show 0 ≤ x.f1; omega⟩
  · rw [if_neg c, if_pos (by omega)]
    refine ⟨?_, fun y hy => ?_⟩
    · rw [Bool.eq_iff_iff]
      simp [had, prs, pr]
      omega
    · simp at hy
      subst hy
      omega
theorem expd_had : ∀ (l : List Sg), l.any week_R.off = false → ∀ m : Int, had (prs (expd l)) m = (decide (0 ≤ m) && decide (m < 10080) && l.any (fun x => inB x m))
  | [], _, m => by simp [expd, had, prs]
  | x :: l, h, m => by
    rw [List.any_cons, Bool.or_eq_false_iff] at h
    have e : expd (x :: l) = exp1 x ++ expd l := rfl
    rw [e, prs_append, had_append, (exp1_had x h.1 m).1, expd_had l h.2 m, List.any_cons]
    generalize (decide (0 ≤ m) && decide (m < 10080)) = z
    cases z <;> simp
theorem expd_ok : ∀ (l : List Sg), l.any week_R.off = false → ∀ y ∈ expd l, 0 ≤ y.f0 ∧ y.f0 ≤ y.f1
  | [], _, y, hy => by simp [expd] at hy
  | x :: l, h, y, hy => by
    rw [List.any_cons, Bool.or_eq_false_iff] at h
    have e : expd (x :: l) = exp1 x ++ expd l := rfl
    rw [e] at hy
    rcases List.mem_append.mp hy with hy | hy
    · exact (exp1_had x h.1 0).2 y hy
    · exact expd_ok l h.2 y hy
theorem make_eq (l : List Sg) (k : Nat) (hk : 2000 ≤ k) : (l.any week_R.off = true ∧ week_Make.f k l = some ([], 1)) ∨ (l.any week_R.off = false ∧ 64 < l.length ∧ week_Make.f k l = some ([], 12)) ∨
    (l.any week_R.off = false ∧ l.length ≤ 64 ∧ ∃ J : List Rg, nrm (-1) J ∧ (∀ m, had J m = (decide (0 ≤ m) && decide (m < 10080) && l.any (fun x => inB x m))) ∧ week_Make.f k l = some (jn J)) := by
  unfold week_Make.f api_Range_26.f
  rw [Option.bind_some]
  cases c : l.any week_R.off with
  | true => exact .inl ⟨rfl, if_pos rfl⟩
  | false =>
    rw [if_neg (by decide)]
    by_cases c2 : 64 < l.length
    · exact .inr (.inl ⟨rfl, c2, if_pos (by omega)⟩)
    · rw [if_neg (by omega)]
      obtain ⟨k', hk', e⟩ := make_l0 l (by omega) l.length k 0 [] (by omega) (by omega) (by simp)
      have hx := expd_len l
      obtain ⟨J, h1, h2, h3⟩ := join_eq (expd l) (by omega) (expd_ok l c) k' hk'
      refine .inr (.inr ⟨rfl, by omega, J, h1, fun m => by rw [h2, expd_had l c], ?_⟩)
      rw [List.drop_zero, List.nil_append] at e
      exact e.trans (jn_bind _ _ h3)
/-! ### Has -/
theorem any_had (l : List Sg) (n : Int) : l.any (week_has.p n) = had (prs l) n := by
  unfold had prs
  rw [List.any_map]
  rfl
theorem minute_eq (l : List Sg) (hl : l.length ≤ 1000000) (n : Int) (k : Nat) (hk : 1000010 ≤ k) : week_minute.f k l n = some (if rightB l = true then (if 0 ≤ n ∧ n < 10080 then 0 else 1) else 2) := by
  unfold week_minute.f
  rw [check_eq l hl k hk, Option.bind_some]
  by_cases c : rightB l = true
  · rw [if_pos c, if_pos rfl, if_pos c]
    by_cases c1 : n < 0
    · rw [if_pos c1, if_neg (by omega)]
    · rw [if_neg c1]
      by_cases c2 : n ≥ 10080
      · rw [if_pos c2, if_neg (by omega)]
      · rw [if_neg c2, if_pos (by omega)]
  · rw [if_neg c, if_neg (by decide), if_neg c]
theorem has_eq (l : List Sg) (hl : l.length ≤ 1000000) (n : Int) (k : Nat) (hk : 1000010 ≤ k) : week_Has.f k l n = some (if rightB l = true then (if 0 ≤ n ∧ n < 10080 then (had (prs l) n, 0) else (false, 1)) else (false, 2)) := by
  unfold week_Has.f
  rw [minute_eq l hl n k hk, Option.bind_some]
  by_cases c : rightB l = true
  · rw [if_pos c, if_pos c]
    by_cases c1 : 0 ≤ n ∧ n < 10080
    · rw [if_pos c1, if_pos rfl, if_pos c1]
      unfold week_has.f
      rw [Option.bind_some, any_had]
    · rw [if_neg c1, if_neg (by decide), if_neg c1]
  · rw [if_neg c, if_neg (by decide), if_neg c]
/-! ### Not -/
def compl : Int → List Sg → List Sg
  | from_, [] => if from_ < 10080 then [⟨from_, 10080⟩] else []
  | from_, x :: l => (if from_ < x.f0 then [⟨from_, x.f0⟩] else []) ++ compl x.f1 l
theorem compl_len : ∀ (l : List Sg) (a : Int), (compl a l).length ≤ l.length + 1
  | [], a => by unfold compl; split <;> simp
  | x :: l, a => by
    have := compl_len l x.f1
    unfold compl
    rw [List.length_append, List.length_cons]
    split <;> simp <;> omega
theorem not_l0 (l : List Sg) (hl : l.length ≤ 1000) : ∀ (m k i : Nat) (out : List Sg) (a : Int), i + m = l.length → m + 1 ≤ k → out.length ≤ i → week_not.l0 k out a l (l.length : Int) (i : Int) = some (out ++ compl a (l.drop i))
  | 0, k, i, out, a, h, hk, ho => by
    obtain ⟨k, rfl⟩ : ∃ m, k = m + 1 := ⟨k - 1, by omega⟩
    rw [week_not.l0, if_neg (by omega), List.drop_of_length_le (by omega), compl]
    by_cases c : a < 10080
    · rw [if_pos c, if_pos (by omega), if_pos c]
    · rw [if_neg c, if_neg c, List.append_nil]
  | m + 1, k, i, out, a, h, hk, ho => by
    obtain ⟨k, rfl⟩ : ∃ m, k = m + 1 := ⟨k - 1, by omega⟩
    have hi : i < l.length := by omega
    rw [week_not.l0, if_pos (by omega), if_pos (by omega), if_pos (by omega), rd_eq l i hi, wrap_k i (by omega), List.drop_eq_getElem_cons hi, compl]
    generalize l[i] = x
    by_cases c : a < x.f0
    · rw [if_pos c, if_pos (by omega), if_pos c, ← List.append_assoc]
      exact not_l0 l hl m k (i + 1) _ _ (by omega) (by omega) (by rw [List.length_append]; simp; omega)
    · rw [if_neg c, if_neg c, List.nil_append]
      exact not_l0 l hl m k (i + 1) _ _ (by omega) (by omega) (by omega)
theorem not_eq (l : List Sg) (hl : l.length ≤ 1000) (k : Nat) (hk : 1010 ≤ k) : week_not.f k l = some (compl 0 l) := by
  have h := not_l0 l hl l.length k 0 [] 0 (by omega) (by omega) (by simp)
  rw [List.drop_zero, List.nil_append] at h
  exact h
theorem compl_had : ∀ (l : List Sg) (a : Int), nrm (a - 1) (prs l) → (∀ x ∈ l, x.f1 ≤ 10080) → ∀ m : Int, had (prs (compl a l)) m = (decide (a ≤ m) && decide (m < 10080) && !had (prs l) m)
  | [], a, _, _, m => by
    unfold compl
    by_cases c : a < 10080
    · rw [if_pos c]; simp [had, prs, pr]
    · rw [if_neg c, Bool.eq_iff_iff]; simp [had, prs]; omega
  | x :: l, a, hn, hb, m => by
    have hx := hb x List.mem_cons_self
    obtain ⟨h1, h2, h3⟩ := hn
    have h1' : a - 1 < x.f0 := h1
    have h2' : x.f0 < x.f1 := h2
    have hn3 : nrm x.f1 (prs l) := h3
    have ih := compl_had l x.f1 (by
      cases l with
      | nil => trivial
      | cons y l => exact ⟨by have := hn3.1; show x.f1 - 1 < y.f0; have : x.f1 < y.f0 := hn3.1; omega, hn3.2⟩) (fun y hy => hb y (List.mem_cons_of_mem _ hy)) m
    have hlb := had_lb (prs l) x.f1 hn3 m
    unfold compl
    rw [prs_append, had_append, ih, prs_cons, had_cons]
    show _ = (decide (a ≤ m) && decide (m < 10080) && !((decide (x.f0 ≤ m) && decide (m < x.f1)) || had (prs l) m))
    have hfirst : had (prs (if a < x.f0 then [(⟨a, x.f0⟩ : Sg)] else [])) m = (decide (a ≤ m) && decide (m < x.f0)) := by
      by_cases c : a < x.f0
      · rw [if_pos c]; simp [had, prs, pr]
      · rw [if_neg c, Bool.eq_iff_iff]; simp [had, prs]; omega
    rw [hfirst]
    cases hh : had (prs l) m with
    | true =>
      have := hlb hh
      rw [Bool.eq_iff_iff]
      simp
      omega
    | false =>
      rw [Bool.eq_iff_iff]
      simp
      omega
theorem compl_ok : ∀ (l : List Sg) (a : Int), 0 ≤ a → nrm (a - 1) (prs l) → ∀ y ∈ compl a l, 0 ≤ y.f0 ∧ y.f0 ≤ y.f1
  | [], a, ha, _, y, hy => by
    unfold compl at hy
    by_cases c : a < 10080
    · rw [if_pos c] at hy
      simp at hy
      subst hy
      exact ⟨ha, by show a ≤ 10080; omega⟩
    · rw [if_neg c] at hy; simp at hy
  | x :: l, a, ha, hn, y, hy => by
    obtain ⟨h1, h2, h3⟩ := hn
    have h1' : a - 1 < x.f0 := h1
    have h2' : x.f0 < x.f1 := h2
    have hn3 : nrm x.f1 (prs l) := h3
    unfold compl at hy
    rcases List.mem_append.mp hy with hy | hy
    · by_cases c : a < x.f0
      · rw [if_pos c] at hy
        simp at hy
        subst hy
        exact ⟨ha, by show a ≤ x.f0; omega⟩
      · rw [if_neg c] at hy; simp at hy
    · exact compl_ok l x.f1 (by omega) (by
        cases l with
        | nil => trivial
        | cons y l => exact ⟨by show x.f1 - 1 < y.f0; have : x.f1 < y.f0 := hn3.1; omega, hn3.2⟩) y hy
theorem compl_nrm : ∀ (l : List Sg) (a b : Int), b < a → nrm (a - 1) (prs l) → (∀ x ∈ l, x.f1 ≤ 10080) → nrm b (prs (compl a l))
  | [], a, b, hb, _, _ => by
    unfold compl
    by_cases c : a < 10080
    · rw [if_pos c]; exact ⟨hb, c, trivial⟩
    · rw [if_neg c]; trivial
  | x :: l, a, b, hb, hn, hx => by
    obtain ⟨h1, h2, h3⟩ := hn
    have h1' : a - 1 < x.f0 := h1
    have h2' : x.f0 < x.f1 := h2
    have hn3 : nrm x.f1 (prs l) := h3
    have hn4 : nrm (x.f1 - 1) (prs l) := by
      cases l with
      | nil => trivial
      | cons y l => exact ⟨by show x.f1 - 1 < y.f0; have : x.f1 < y.f0 := hn3.1; omega, hn3.2⟩
    unfold compl
    by_cases c : a < x.f0
    · rw [if_pos c]
      exact ⟨hb, c, compl_nrm l x.f1 x.f0 h2' hn4 (fun y hy => hx y (List.mem_cons_of_mem _ hy))⟩
    · rw [if_neg c, List.nil_append]
      exact compl_nrm l x.f1 b (by omega) hn4 (fun y hy => hx y (List.mem_cons_of_mem _ hy))
theorem nrm_down {a b : Int} (h : b ≤ a) : ∀ {l : List Rg}, nrm a l → nrm b l
  | [], _ => trivial
  | x :: l, hn => ⟨by have := hn.1; omega, hn.2⟩
/-- A week's complement: put together, or too long. -/
theorem weeknot_eq (l : List Sg) (hl : l.length ≤ 1000000) (k : Nat) (hk : 1000010 ≤ k) : (rightB l = false ∧ week_Not.f k l = some ([], 2)) ∨
    (rightB l = true ∧ ∃ J : List Rg, nrm (-1) J ∧ (∀ m, had J m = (decide (0 ≤ m) && decide (m < 10080) && !had (prs l) m)) ∧ week_Not.f k l = some (jn J)) := by
  unfold week_Not.f
  rw [check_eq l hl k hk, Option.bind_some]
  cases c : rightB l with
  | false => exact .inl ⟨rfl, rfl⟩
  | true =>
    rw [if_pos rfl, if_pos rfl]
    obtain ⟨h1, h2, h3⟩ := right_nrm l c
    have hn : nrm (0 - 1) (prs l) := h1
    have hc := compl_len l 0
    obtain ⟨J, g1, g2, g3⟩ := join_eq (compl 0 l) (by omega) (compl_ok l 0 (by omega) hn) k (by omega)
    rw [not_eq l (by omega) k (by omega), Option.bind_some]
    exact .inr ⟨rfl, J, g1, fun m => by rw [g2, compl_had l 0 hn h2], jn_bind _ _ g3⟩
/-! ### And, Or -/
theorem rdL_eq (l : List (List Sg)) (i : Nat) (h : i < l.length) : l.getD ((i : Int)).toNat ([] : List Sg) = l[i] := by
  rw [Int.toNat_natCast, List.getD_eq_getElem?_getD, List.getElem?_eq_getElem h]
  rfl
theorem same_l0 (l : List Sg) (hl : l.length ≤ 1000) : ∀ (m k i : Nat), i + m = l.length → m + 1 ≤ k → bellmanref07_Same.l0 k l l (l.length : Int) (i : Int) = some true
  | 0, k, i, h, hk => by
    obtain ⟨k, rfl⟩ : ∃ m, k = m + 1 := ⟨k - 1, by omega⟩
    rw [bellmanref07_Same.l0, if_neg (by omega)]
  | m + 1, k, i, h, hk => by
    obtain ⟨k, rfl⟩ : ∃ m, k = m + 1 := ⟨k - 1, by omega⟩
    rw [bellmanref07_Same.l0, if_pos (by omega), if_pos (by omega), if_pos (by omega), if_pos (by omega), if_neg (by simp), wrap_k i (by omega)]
    exact same_l0 l hl m k (i + 1) (by omega) (by omega)
theorem same_eq (l : List Sg) (hl : l.length ≤ 1000) (k : Nat) (hk : 1010 ≤ k) : bellmanref07_Same.f k l l = some true := by
  unfold bellmanref07_Same.f
  rw [if_pos rfl]
  exact same_l0 l hl l.length k 0 (by omega) (by omega)
theorem jn_len (J : List Rg) : (jn J).1.length ≤ 64 := by
  unfold jn
  split
  · rename_i h
    show (J.map mk).length ≤ 64
    rw [List.length_map]; exact h
  · simp
end Go.Proofs.Ytlnadfhhgcpkpaa.XW
