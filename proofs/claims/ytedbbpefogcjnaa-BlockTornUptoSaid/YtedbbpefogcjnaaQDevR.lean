-- by a program of this session
import Derived.Test.YtedbbpefogcjnaaXB6
import Derived.Test.YtedbbpefogcjnaaXB7
import Derived.Test.YtedbbpefogcjnaaXB8
import Derived.Test.YtedbbpefogcjnaaXB10
import Derived.Test.YtedbbpefogcjnaaXB4
set_option linter.unusedVariables false
set_option linter.unusedSimpArgs false
/-! Devices: what the definition answers, plain. -/
namespace Go.Proofs.Ytedbbpefogcjnaa.XB
open Go.RowKit Go.Proofs.YtedbbpefogcjnaaW.PrintWords Go.Proofs.YtedbbpefogcjnaaW.PrintLast Go.Proofs.YtedbbpefogcjnaaW.PrintMore
theorem dv_wrap (i : Nat) (h : i ≤ 9000000000000000000) : wrap64 ((i : Int) + 1) = ((i + 1 : Nat) : Int) := by unfold wrap64; omega
theorem dv_rdw (l : List S39) (i : Nat) (h : i < l.length) : rd_T39 l (i : Int) = l[i] := by
  unfold rd_T39
  rw [Int.toNat_natCast, List.getD_eq_getElem?_getD, List.getElem?_eq_getElem h]; rfl
theorem dv_rdb (l : List ByteArray) (i : Nat) (h : i < l.length) : rdOf ByteArray.empty l (i : Int) = l[i] := by
  unfold rdOf
  rw [Int.toNat_natCast, List.getD_eq_getElem?_getD, List.getElem?_eq_getElem h]; rfl
theorem dev_chk_l1 (D : Dv) (hn : D.w.length ≤ 4096) : ∀ (d i : Nat), i + d = D.w.length → Ev (fun k => bellmanref03_Check.l1 k D.w (D.w.length : Int) (i : Int) D.b D.w D.f D.d) (if (D.w.drop i).all (dv_okw D.b.length) = true then 0 else 2)
  | 0, i, h => by
    rw [List.drop_of_length_le (by omega)]
    refine Ev.step (f := fun _ => some 0) (fun k => ?_) (Ev.now _)
    rw [bellmanref03_Check.l1, if_neg (by omega)]
  | d + 1, i, h => by
    have hi : i < D.w.length := by omega
    have ih := dev_chk_l1 D hn d (i + 1) (by omega)
    rw [List.drop_eq_getElem_cons hi, List.all_cons]
    have hst : ∀ k, bellmanref03_Check.l1 (k + 1) D.w (D.w.length : Int) (i : Int) D.b D.w D.f D.d = (if (D.w[i]).f0 < 0 then some 2 else (if (D.w[i]).f0 ≥ (D.b.length : Int) then some 2 else (if ((D.w[i]).f1.size : Int) = 64 then bellmanref03_Check.l1 k D.w (D.w.length : Int) ((i + 1 : Nat) : Int) D.b D.w D.f D.d else some 2))) := fun k => by
      rw [bellmanref03_Check.l1, if_pos (by omega), if_pos (by omega), if_pos (by omega), dv_rdw _ i hi, dv_wrap i (by omega)]
    generalize D.w[i] = x at hst ⊢
    unfold dv_okw
    by_cases c1 : 0 ≤ x.f0
    · by_cases c2 : x.f0 < (D.b.length : Int)
      · by_cases c3 : x.f1.size = 64
        · refine Ev.step hst ?_
          simp only [if_neg (show ¬ x.f0 < 0 by omega), if_neg (show ¬ x.f0 ≥ (D.b.length : Int) by omega), if_pos (show (x.f1.size : Int) = 64 by omega), decide_eq_true c1, decide_eq_true c2, beq_iff_eq.mpr c3, Bool.true_and, Bool.and_self]
          exact ih
        · refine Ev.step hst ?_
          simp only [if_neg (show ¬ x.f0 < 0 by omega), if_neg (show ¬ x.f0 ≥ (D.b.length : Int) by omega), if_neg (show ¬ (x.f1.size : Int) = 64 by omega), beq_eq_false_iff_ne.mpr c3, Bool.and_false, Bool.false_and]
          exact Ev.now _
      · refine Ev.step hst ?_
        simp only [if_neg (show ¬ x.f0 < 0 by omega), if_pos (show x.f0 ≥ (D.b.length : Int) by omega), decide_eq_false c2, Bool.false_and, Bool.and_false]
        exact Ev.now _
    · refine Ev.step hst ?_
      simp only [if_pos (show x.f0 < 0 by omega), decide_eq_false c1, Bool.false_and]
      exact Ev.now _
theorem dev_chk_l0 (D : Dv) (hb : D.b.length ≤ 4096) (hn : D.w.length ≤ 4096) : ∀ (d i : Nat), i + d = D.b.length → Ev (fun k => bellmanref03_Check.l0 k D.b (D.b.length : Int) (i : Int) D.b D.w D.f D.d) (if ((D.b.drop i).all (fun s => s.size == 64) && D.w.all (dv_okw D.b.length)) = true then 0 else 2)
  | 0, i, h => by
    rw [List.drop_of_length_le (by omega)]
    refine Ev.step (f := fun k => bellmanref03_Check.l1 k D.w (D.w.length : Int) 0 D.b D.w D.f D.d) (fun k => ?_) ?_
    · rw [bellmanref03_Check.l0, if_neg (by omega)]
    · have := dev_chk_l1 D hn D.w.length 0 (by omega)
      rw [List.drop_zero] at this
      exact this
  | d + 1, i, h => by
    have hi : i < D.b.length := by omega
    have ih := dev_chk_l0 D hb hn d (i + 1) (by omega)
    rw [List.drop_eq_getElem_cons hi, List.all_cons]
    have hst : ∀ k, bellmanref03_Check.l0 (k + 1) D.b (D.b.length : Int) (i : Int) D.b D.w D.f D.d = (if ((D.b[i]).size : Int) = 64 then bellmanref03_Check.l0 k D.b (D.b.length : Int) ((i + 1 : Nat) : Int) D.b D.w D.f D.d else some 2) := fun k => by
      rw [bellmanref03_Check.l0, if_pos (by omega), if_pos (by omega), if_pos (by omega), dv_rdb _ i hi, dv_wrap i (by omega)]
    by_cases c3 : (D.b[i]).size = 64
    · refine Ev.step hst ?_
      simp only [if_pos (show ((D.b[i]).size : Int) = 64 by omega), beq_iff_eq.mpr c3, Bool.true_and]
      exact ih
    · refine Ev.step hst ?_
      simp only [if_neg (show ¬ ((D.b[i]).size : Int) = 64 by omega), beq_eq_false_iff_ne.mpr c3, Bool.false_and]
      exact Ev.now _
/-- The definition's check. -/
theorem dev_chk (D : Dv) : Ev (fun k => bellmanref03_Check.f k D.b D.w D.f D.d) (dv_check D) := by
  unfold dv_check dv_ok
  have hj1 : Ev (fun k => bellmanref03_Check.j0 k true D.b D.w D.f D.d) 2 := by
    refine Ev.step (f := fun _ => some 2) (fun k => ?_) (Ev.now _)
    rw [bellmanref03_Check.j0, if_pos rfl]
  by_cases c1 : D.b.length ≤ 4096
  · by_cases c2 : D.w.length ≤ 4096
    · refine Ev.congr (f := fun k => bellmanref03_Check.j0 k (decide (D.f < (-1))) D.b D.w D.f D.d) (fun k => ?_) ?_
      · rw [bellmanref03_Check.f, if_neg (by omega), if_neg (by omega)]
      · by_cases c3 : -1 ≤ D.f
        · rw [decide_eq_false (show ¬ D.f < -1 by omega), decide_eq_true c1, decide_eq_true c2, decide_eq_true c3, Bool.true_and, Bool.true_and, Bool.true_and]
          refine Ev.step (f := fun k => bellmanref03_Check.l0 k D.b (D.b.length : Int) 0 D.b D.w D.f D.d) (fun k => ?_) ?_
          · rw [bellmanref03_Check.j0, if_neg (by decide)]
          · have := dev_chk_l0 D c1 c2 D.b.length 0 (by omega)
            rw [List.drop_zero] at this
            exact this
        · rw [decide_eq_true (show D.f < -1 by omega), decide_eq_false c3, Bool.false_and, Bool.and_false, Bool.and_false]
          exact hj1
    · refine Ev.congr (f := fun k => bellmanref03_Check.j0 k true D.b D.w D.f D.d) (fun k => ?_) ?_
      · rw [bellmanref03_Check.f, if_neg (by omega), if_pos (by omega)]
      · rw [decide_eq_false c2, Bool.false_and, Bool.and_false]
        exact hj1
  · refine Ev.congr (f := fun k => bellmanref03_Check.j0 k true D.b D.w D.f D.d) (fun k => ?_) ?_
    · rw [bellmanref03_Check.f, if_pos (by omega)]
    · rw [decide_eq_false c1, Bool.false_and]
      exact hj1
/-- What a block has, from the first wait on. -/
def hasF (a : Int) (s : ByteArray) (l : List S39) : ByteArray := l.foldl (fun s x => if x.f0 = a then x.f1 else s) s
theorem hasF_rev (a : Int) (s : ByteArray) (l : List S39) : hasF a s l = match l.reverse.find? (fun x => x.f0 == a) with | some x => x.f1 | none => s := by
  unfold hasF
  induction l generalizing s with
  | nil => rfl
  | cons x l ih =>
    rw [List.foldl_cons, ih, List.reverse_cons, List.find?_append]
    cases h : List.find? (fun x => x.f0 == a) l.reverse with
    | some y => simp
    | none =>
      by_cases c : x.f0 = a
      · simp [c]
      · simp [c]
theorem dv_has_F (D : Dv) (a : Int) : dv_has D a = hasF a (D.b.getD a.toNat ByteArray.empty) D.w := by
  rw [hasF_rev]; rfl
theorem dev_has_l0 (D : Dv) (a : Int) (hn : D.w.length ≤ 4096) : ∀ (d i : Nat) (s : ByteArray), i + d = D.w.length → Ev (fun k => bellmanref03_has.l0 k a s D.w (D.w.length : Int) (i : Int)) (hasF a s (D.w.drop i))
  | 0, i, s, h => by
    rw [List.drop_of_length_le (by omega)]
    refine Ev.step (f := fun _ => some s) (fun k => ?_) (Ev.now _)
    rw [bellmanref03_has.l0, if_neg (by omega)]
  | d + 1, i, s, h => by
    have hi : i < D.w.length := by omega
    rw [List.drop_eq_getElem_cons hi]
    have hst : ∀ k, bellmanref03_has.l0 (k + 1) a s D.w (D.w.length : Int) (i : Int) = (if (D.w[i]).f0 = a then bellmanref03_has.l0 k a (D.w[i]).f1 D.w (D.w.length : Int) ((i + 1 : Nat) : Int) else bellmanref03_has.l0 k a s D.w (D.w.length : Int) ((i + 1 : Nat) : Int)) := fun k => by
      rw [bellmanref03_has.l0, if_pos (by omega), if_pos (by omega), if_pos (by omega), dv_rdw _ i hi, dv_wrap i (by omega)]
    by_cases c : (D.w[i]).f0 = a
    · refine Ev.step hst ?_
      simp only [if_pos c]
      have := dev_has_l0 D a hn d (i + 1) (D.w[i]).f1 (by omega)
      unfold hasF at this ⊢
      rw [List.foldl_cons, if_pos c]
      exact this
    · refine Ev.step hst ?_
      simp only [if_neg c]
      have := dev_has_l0 D a hn d (i + 1) s (by omega)
      unfold hasF at this ⊢
      rw [List.foldl_cons, if_neg c]
      exact this
theorem dev_has_ev (D : Dv) (i : Nat) (hi : i < D.b.length) (hn : D.w.length ≤ 4096) : Ev (fun k => bellmanref03_has.f k D.b D.w D.f D.d (i : Int)) (dv_has D (i : Int)) := by
  rw [dv_has_F]
  refine Ev.congr (f := fun k => bellmanref03_has.l0 k (i : Int) (rdOf ByteArray.empty D.b (i : Int)) D.w (D.w.length : Int) 0) (fun k => ?_) ?_
  · rw [bellmanref03_has.f, if_pos (by omega), if_pos (by omega)]
  · have := dev_has_l0 D (i : Int) hn D.w.length 0 (rdOf ByteArray.empty D.b (i : Int)) (by omega)
    rw [List.drop_zero] at this
    exact this
theorem dv_eqs_from {D X : Dv} {n i : Nat} (h : ∀ j, j < i → (dv_has D (j : Int)).toList = (dv_has X (j : Int)).toList) (hi : i = n) : dv_eqs D X n = true := by
  subst hi; exact dv_eqs_all h
theorem dev_same_l0 (D X : Dv) (hn : D.w.length ≤ 4096) (hx : X.w.length ≤ 4096) (hb : D.b.length ≤ 4096) (he : D.b.length = X.b.length) : ∀ (d i : Nat), i + d = D.b.length → (∀ j, j < i → (dv_has D (j : Int)).toList = (dv_has X (j : Int)).toList) → Ev (fun k => bellmanref03_Same.l0 k (D.b.length : Int) (i : Int) D.b D.w D.f D.d X.b X.w X.f X.d) (dv_eqs D X D.b.length, 0)
  | 0, i, h, hj => by
    rw [dv_eqs_from hj (by omega)]
    refine Ev.step (f := fun _ => some (true, 0)) (fun k => ?_) (Ev.now _)
    rw [bellmanref03_Same.l0, if_neg (by omega)]
  | d + 1, i, h, hj => by
    have hi : i < D.b.length := by omega
    have h1 := dev_has_ev D i hi hn
    have h2 := dev_has_ev X i (by omega) hx
    have hst : ∀ k, bellmanref03_Same.l0 (k + 1) (D.b.length : Int) (i : Int) D.b D.w D.f D.d X.b X.w X.f X.d = (bellmanref03_has.f k D.b D.w D.f D.d (i : Int)).bind fun t => (bellmanref03_has.f k X.b X.w X.f X.d (i : Int)).bind fun u => if t.toList = u.toList then bellmanref03_Same.l0 k (D.b.length : Int) ((i + 1 : Nat) : Int) D.b D.w D.f D.d X.b X.w X.f X.d else some (false, 0) := fun k => by
      rw [bellmanref03_Same.l0, if_pos (by omega), dv_wrap i (by omega)]
    refine Ev.step hst (Ev.bind h1 (Ev.bind h2 ?_))
    by_cases c : (dv_has D (i : Int)).toList = (dv_has X (i : Int)).toList
    · simp only [if_pos c]
      exact dev_same_l0 D X hn hx hb he d (i + 1) (by omega) (fun j hlt => by
        rcases Nat.lt_succ_iff_lt_or_eq.1 hlt with h | h
        · exact hj j h
        · subst h; exact c)
    · simp only [if_neg c]
      rw [dv_eqs_yes hi hj c]
      exact Ev.now _
theorem dv_ok_len {D : Dv} (h : dv_check D = 0) : D.b.length ≤ 4096 ∧ D.w.length ≤ 4096 := by
  have := dv_check_ok h
  unfold dv_ok at this
  simp only [Bool.and_eq_true, decide_eq_true_eq] at this
  exact ⟨this.1, this.2.1⟩
/-- The definition holds two against each other as the program does. -/
theorem dev_same (D X : Dv) : Ev (fun k => bellmanref03_Same.f k D.b D.w D.f D.d X.b X.w X.f X.d) (dv_Same D X) := by
  unfold dv_Same
  refine Ev.congr (f := fun k => (bellmanref03_Check.f k D.b D.w D.f D.d).bind fun t => if t = 0 then (bellmanref03_Check.f k X.b X.w X.f X.d).bind fun u => bellmanref03_Same.j0 k (u != 0) D.b D.w D.f D.d X.b X.w X.f X.d else bellmanref03_Same.j0 k true D.b D.w D.f D.d X.b X.w X.f X.d) (fun k => rfl) ?_
  refine Ev.bind (dev_chk D) ?_
  have hj1 : Ev (fun k => bellmanref03_Same.j0 k true D.b D.w D.f D.d X.b X.w X.f X.d) (false, 2) := by
    refine Ev.step (f := fun _ => some (false, 2)) (fun k => ?_) (Ev.now _)
    rw [bellmanref03_Same.j0, if_pos rfl]
  by_cases c1 : dv_check D = 0
  · simp only [if_pos c1]
    refine Ev.bind (dev_chk X) ?_
    by_cases c2 : dv_check X = 0
    · simp only [if_pos c2, c2]
      by_cases c3 : D.b.length = X.b.length
      · rw [if_pos c3]
        refine Ev.step (f := fun k => bellmanref03_Same.l0 k (D.b.length : Int) 0 D.b D.w D.f D.d X.b X.w X.f X.d) (fun k => ?_) ?_
        · rw [bellmanref03_Same.j0, if_neg (by decide), if_pos (by omega)]
        · exact dev_same_l0 D X (dv_ok_len c1).2 (dv_ok_len c2).2 (dv_ok_len c1).1 c3 D.b.length 0 (by omega) (fun j hj => absurd hj (by omega))
      · rw [if_neg c3]
        refine Ev.step (f := fun _ => some (false, 0)) (fun k => ?_) (Ev.now _)
        rw [bellmanref03_Same.j0, if_neg (by decide), if_neg (by omega)]
    · simp only [if_neg c2, bne_iff_ne.mpr c2]
      exact hj1
  · simp only [if_neg c1]
    exact hj1
theorem dev_one_l1 (b : List ByteArray) (w : List S39) (f : Int) (d : Bool) (hn : w.length ≤ 9000000000000000000) : ∀ (m i : Nat), i + m = w.length → Ev (fun k => bellmanref03_One.l1 k (w.length : Int) (i : Int) b w f d b w f d) true
  | 0, i, h => by
    refine Ev.step (f := fun _ => some true) (fun k => ?_) (Ev.now _)
    rw [bellmanref03_One.l1, if_neg (by omega)]
  | m + 1, i, h => by
    refine Ev.step (f := fun k => bellmanref03_One.l1 k (w.length : Int) ((i + 1 : Nat) : Int) b w f d b w f d) (fun k => ?_) (dev_one_l1 b w f d hn m (i + 1) (by omega))
    rw [bellmanref03_One.l1, if_pos (by omega), if_pos (by omega), if_pos (by omega), if_pos (by omega), if_neg (by simp), dv_wrap i (by omega)]
theorem dev_one_l0 (b : List ByteArray) (w : List S39) (f : Int) (d : Bool) (hb : b.length ≤ 9000000000000000000) (hn : w.length ≤ 9000000000000000000) : ∀ (m i : Nat), i + m = b.length → Ev (fun k => bellmanref03_One.l0 k (b.length : Int) (i : Int) b w f d b w f d) true
  | 0, i, h => by
    refine Ev.step (f := fun k => bellmanref03_One.l1 k (w.length : Int) 0 b w f d b w f d) (fun k => ?_) (dev_one_l1 b w f d hn w.length 0 (by omega))
    rw [bellmanref03_One.l0, if_neg (by omega)]
  | m + 1, i, h => by
    refine Ev.step (f := fun k => bellmanref03_One.l0 k (b.length : Int) ((i + 1 : Nat) : Int) b w f d b w f d) (fun k => ?_) (dev_one_l0 b w f d hb hn m (i + 1) (by omega))
    rw [bellmanref03_One.l0, if_pos (by omega), if_pos (by omega), if_pos (by omega), if_pos (by omega), if_pos rfl, dv_wrap i (by omega)]
/-- A device is one with itself. -/
theorem dev_one (b : List ByteArray) (w : List S39) (f : Int) (d : Bool) (hb : b.length ≤ 9000000000000000000) (hn : w.length ≤ 9000000000000000000) : Ev (fun k => bellmanref03_One.f k b w f d b w f d) true := by
  refine Ev.congr (f := fun k => bellmanref03_One.j0 k false b w f d b w f d) (fun k => ?_) ?_
  · rw [bellmanref03_One.f, if_pos rfl, if_neg (by simp), if_pos rfl]
    simp
  · refine Ev.step (f := fun k => bellmanref03_One.l0 k (b.length : Int) 0 b w f d b w f d) (fun k => ?_) (dev_one_l0 b w f d hb hn b.length 0 (by omega))
    rw [bellmanref03_One.j0, if_neg (by decide)]
end Go.Proofs.Ytedbbpefogcjnaa.XB
