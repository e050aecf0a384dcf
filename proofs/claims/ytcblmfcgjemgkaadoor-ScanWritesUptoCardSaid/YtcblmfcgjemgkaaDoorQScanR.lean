-- by a program of this session
import Derived.Test.YtcblmfcgjemgkaaDoorQScanC
import Derived.Test.YtcblmfcgjemgkaaDoorXS8
import Derived.Test.YtcblmfcgjemgkaaDoorXS7
import Derived.Test.YtcblmfcgjemgkaaDoorXS6
import Derived.Test.YtcblmfcgjemgkaaDoorXS5
set_option linter.unusedVariables false
set_option linter.unusedSimpArgs false
/-! The document's tokens: what the definition comes to. -/
namespace Go.Proofs.YtcblmfcgjemgkaaDoor.XS
open Go.RowKit Go.Proofs.YtcblmfcgjemgkaaDoorW.PrintWords Go.Proofs.YtcblmfcgjemgkaaDoorW.PrintLast Go.Proofs.YtcblmfcgjemgkaaDoorW.PrintMore
theorem named_loop (s : ByteArray) (hs : s.size < 4611686018427387904) : ∀ (d i : Nat), i + d = s.size → Ev (fun k => bellmanref09_Named.l0 k s (i : Int)) (nmr s i d && (decide (0 < s.size) && decide (s.size ≤ 32)))
  | 0, i, h => by
    have e : nmr s i 0 = true := rfl
    rw [e, Bool.true_and]
    by_cases c : s.size = 0
    · refine Ev.step (f := fun _ => some false) (fun k => ?_) (by rw [decide_eq_false (show ¬ 0 < s.size by omega), Bool.false_and]; exact Ev.now _)
      rw [bellmanref09_Named.l0, if_neg (by omega), if_pos (by rw [toList_data]; exact List.eq_nil_of_length_eq_zero (by rw [← size_toL]; exact c))]
    · refine Ev.step (f := fun _ => some (decide ((s.size : Int) ≤ 32))) (fun k => ?_) (by
        rw [decide_eq_true (show 0 < s.size by omega), Bool.true_and]
        have e2 : decide ((s.size : Int) ≤ 32) = decide (s.size ≤ 32) := by rw [decide_eq_decide]; omega
        rw [e2]; exact Ev.now _)
      rw [bellmanref09_Named.l0, if_neg (by omega), if_neg (by rw [toList_data]; intro e; have := congrArg List.length e; rw [← size_toL] at this; exact c this)]
  | d + 1, i, h => by
    have ih := named_loop s hs d (i + 1) (by omega)
    have hw := w_one (i := i) (by omega)
    have e : nmr s i (d + 1) = (nmc i (bt s (i : Int)) && nmr s (i + 1) d) := rfl
    rw [e, Bool.and_assoc]
    have hst : ∀ k, bellmanref09_Named.l0 (k + 1) s (i : Int) = if nmc i (bt s (i : Int)) = true then bellmanref09_Named.l0 k s ((i + 1 : Nat) : Int) else some false := by
      intro k
      rw [bellmanref09_Named.l0, if_pos (by omega), if_pos (by omega), hw]
      generalize bt s (i : Int) = c
      unfold nmc
      by_cases a : c ≥ 97
      · rw [if_pos a, decide_eq_true (show 97 ≤ c from a), Bool.true_and]
        by_cases b : c ≤ 122
        · rw [if_pos b, decide_eq_true b]; rfl
        · rw [if_neg b, decide_eq_false b, Bool.false_or]
          by_cases z : (i : Int) = 0
          · rw [if_pos z, decide_eq_false (by omega)]; rfl
          · rw [if_neg z, decide_eq_true (show 0 < i by omega), Bool.true_and]
            by_cases u : c = 95
            · rw [if_pos u, decide_eq_true u]; rfl
            · rw [if_neg u, decide_eq_false u, Bool.false_or, if_neg (by omega), if_pos (by omega), decide_eq_false (show ¬ c ≤ 57 by omega), Bool.and_false]; rfl
      · rw [if_neg a, decide_eq_false (show ¬ 97 ≤ c from a), Bool.false_and, Bool.false_or]
        by_cases z : (i : Int) = 0
        · rw [if_pos z, decide_eq_false (by omega)]; rfl
        · rw [if_neg z, decide_eq_true (show 0 < i by omega), Bool.true_and]
          by_cases u : c = 95
          · rw [if_pos u, decide_eq_true u]; rfl
          · rw [if_neg u, decide_eq_false u, Bool.false_or]
            by_cases v : c < 48
            · rw [if_pos v, decide_eq_false (show ¬ 48 ≤ c by omega)]; rfl
            · rw [if_neg v, decide_eq_true (show 48 ≤ c by omega), Bool.true_and]
              by_cases x : c > 57
              · rw [if_pos x, decide_eq_false (show ¬ c ≤ 57 by omega)]; rfl
              · rw [if_neg x, decide_eq_true (show c ≤ 57 by omega)]; rfl
    cases hn : nmc i (bt s (i : Int)) with
    | true =>
      rw [Bool.true_and]
      exact Ev.step (f := fun k => bellmanref09_Named.l0 k s ((i + 1 : Nat) : Int)) (fun k => by rw [hst, if_pos hn]) ih
    | false =>
      rw [Bool.false_and]
      exact Ev.step (f := fun _ => some false) (fun k => by rw [hst, hn]; rfl) (Ev.now _)
theorem named_f {s : ByteArray} (hs : s.size < 4611686018427387904) : Ev (fun k => bellmanref09_Named.f k s) (nm s) := by
  unfold bellmanref09_Named.f
  have h := named_loop s hs s.size 0 (by omega)
  have e : nm s = (nmr s 0 s.size && (decide (0 < s.size) && decide (s.size ≤ 32))) := by
    unfold nm
    cases decide (0 < s.size) <;> cases decide (s.size ≤ 32) <;> simp
  rw [e]
  exact h
theorem special_f (s : ByteArray) : bellmanref10_special.f s = some (!decide (ownM s = 2)) := by
  unfold bellmanref10_special.f ownM
  rw [toList_data]
  by_cases a : s.data.toList = [105, 102]
  · rw [if_pos a, if_pos a]; rfl
  · rw [if_neg a, if_neg a]
    by_cases b : s.data.toList = [101, 97, 99, 104]
    · rw [if_pos b, if_neg (by rw [b]; decide), if_pos b]; rfl
    · rw [if_neg b, if_neg b]
      by_cases c : s.data.toList = [101, 108, 115, 101]
      · rw [if_pos c, if_pos c]; rfl
      · rw [if_neg c, if_neg c]
        by_cases d : s.data.toList = [101, 110, 100]
        · rw [if_pos d, d]; rfl
        · rw [if_neg d]
          have : (s.data.toList == ([101, 110, 100] : List UInt8)) = false := beq_eq_false_iff_ne.mpr d
          rw [this]; rfl
theorem rright_loop (l : List ByteArray) (hl : l.length < 4611686018427387904) (hs : ∀ x ∈ l, x.size < 4611686018427387904) : ∀ (d i : Nat), i + d = l.length → Ev (fun k => bellmanref10_right.l0 k l l (l.length : Int) (i : Int)) ((l.drop i).all nm && (decide (1 ≤ l.length) && (decide (l.length ≤ 4) && (decide (l.length ≠ 1) || decide (ownM (l.getD 0 ByteArray.empty) = 2)))))
  | 0, i, h => by
    rw [List.drop_eq_nil_of_le (by omega), List.all_nil, Bool.true_and]
    have hst : ∀ k, bellmanref10_right.l0 (k + 1) l l (l.length : Int) (i : Int) = some (decide (1 ≤ l.length) && (decide (l.length ≤ 4) && (decide (l.length ≠ 1) || decide (ownM (l.getD 0 ByteArray.empty) = 2)))) := by
      intro k
      rw [bellmanref10_right.l0, if_neg (by omega)]
      by_cases a : (l.length : Int) ≥ 1
      · rw [if_pos a, decide_eq_true (show 1 ≤ l.length by omega), Bool.true_and]
        by_cases b : (l.length : Int) ≤ 4
        · rw [if_pos b, decide_eq_true (show l.length ≤ 4 by omega), Bool.true_and]
          by_cases c : (l.length : Int) > 1
          · rw [if_pos c, decide_eq_true (show l.length ≠ 1 by omega)]; rfl
          · rw [if_neg c, if_pos (by omega), decide_eq_false (show ¬ (l.length ≠ 1) by omega), Bool.false_or]
            have e : rdOf ByteArray.empty l 0 = l.getD 0 ByteArray.empty := rfl
            rw [e, special_f, Option.bind_some, Bool.not_not]
        · rw [if_neg b, decide_eq_false (show ¬ l.length ≤ 4 by omega)]; rfl
      · rw [if_neg a, decide_eq_false (show ¬ 1 ≤ l.length by omega)]; rfl
    exact Ev.step (f := fun _ => some _) hst (Ev.now _)
  | d + 1, i, h => by
    have ih := rright_loop l hl hs d (i + 1) (by omega)
    have hi : i < l.length := by omega
    have e : rdOf ByteArray.empty l (i : Int) = l[i] := by unfold rdOf; rw [Int.toNat_natCast, List.getD_eq_getElem?_getD, List.getElem?_eq_getElem hi]; rfl
    have hst : ∀ k, bellmanref10_right.l0 (k + 1) l l (l.length : Int) (i : Int) = (bellmanref09_Named.f k l[i]).bind fun t => if t = true then bellmanref10_right.l0 k l l (l.length : Int) ((i + 1 : Nat) : Int) else some false := by
      intro k
      rw [bellmanref10_right.l0, if_pos (by omega), if_pos (by omega), if_pos (by omega), e, w_one (by omega)]
    rw [List.drop_eq_getElem_cons hi, List.all_cons, Bool.and_assoc]
    refine Ev.step hst (Ev.bind (named_f (hs _ (List.getElem_mem hi))) (f := fun k t => if t = true then bellmanref10_right.l0 k l l (l.length : Int) ((i + 1 : Nat) : Int) else some false) ?_)
    cases nm l[i] with
    | true => simp only [if_true, Bool.true_and]; exact ih
    | false => simp only [Bool.false_and]; exact Ev.now _
theorem rright_f {l : List ByteArray} (hl : l.length < 4611686018427387904) (hs : ∀ x ∈ l, x.size < 4611686018427387904) : Ev (fun k => bellmanref10_right.f k l) (rtM l) := by
  unfold bellmanref10_right.f
  have h := rright_loop l hl hs l.length 0 (by omega)
  have e : rtM l = ((l.drop 0).all nm && (decide (1 ≤ l.length) && (decide (l.length ≤ 4) && (decide (l.length ≠ 1) || decide (ownM (l.getD 0 ByteArray.empty) = 2))))) := by
    unfold rtM
    rw [List.drop_zero]
    cases l.all nm <;> simp
  rw [e]
  exact h
def glue (cur : List UInt8) : List (List UInt8) → List (List UInt8)
  | [] => [cur]
  | p :: r => (cur ++ p) :: r
theorem glue_nil {ps : List (List UInt8)} (h : ps ≠ []) : glue [] ps = ps := by
  cases ps with
  | nil => exact absurd rfl h
  | cons p r => rfl
theorem rsplit_loop (s : ByteArray) (c : UInt8) (hs : s.size ≤ 1048576) : ∀ (d i : Nat) (done : List ByteArray) (cur : List UInt8), i + d = s.size → done.length ≤ i → cur.length ≤ i → Ev (fun k => bellmanref10_split.l0 k s (c.toNat : Int) (done ++ [ofL cur]) (i : Int)) (done ++ (glue cur (spl c (s.data.toList.drop i))).map ofL)
  | 0, i, done, cur, h, h1, h2 => by
    rw [List.drop_eq_nil_of_le (by rw [← size_toL]; omega)]
    have e : done ++ (glue cur (spl c [])).map ofL = done ++ [ofL cur] := by simp [spl, glue]
    rw [e]
    exact Ev.step (f := fun _ => some (done ++ [ofL cur])) (fun k => by rw [bellmanref10_split.l0, if_neg (by omega)]) (Ev.now _)
  | d + 1, i, done, cur, h, h1, h2 => by
    have hi : i < s.data.toList.length := by rw [← size_toL]; omega
    have hb := bt_is s i hi c
    have hw := w_one (i := i) (by omega)
    rw [List.drop_eq_getElem_cons hi, spl]
    by_cases e : s.data.toList[i] = c
    · rw [if_pos e]
      have ih := rsplit_loop s c hs d (i + 1) (done ++ [ofL cur]) [] (by omega) (by simp; omega) (by simp)
      rw [glue_nil (spl_ne _ _)] at ih
      have e2 : done ++ (glue cur ([] :: spl c (s.data.toList.drop (i + 1)))).map ofL = done ++ [ofL cur] ++ (spl c (s.data.toList.drop (i + 1))).map ofL := by simp [glue]
      rw [e2]
      refine Ev.step (fun k => ?_) ih
      rw [bellmanref10_split.l0, if_pos (by omega), if_pos (by omega), if_pos (hb.2 e), if_pos (by simp only [List.length_append, List.length_cons, List.length_nil]; omega), hw]
      rfl
    · rw [if_neg e]
      have ih := rsplit_loop s c hs d (i + 1) done (cur ++ [s.data.toList[i]]) (by omega) (by omega) (by simp; omega)
      obtain ⟨p, r, hsp⟩ : ∃ p r, spl c (s.data.toList.drop (i + 1)) = p :: r := List.exists_cons_of_ne_nil (spl_ne _ _)
      rw [hsp] at ih ⊢
      have e2 : glue (cur ++ [s.data.toList[i]]) (p :: r) = (cur ++ (s.data.toList[i] :: p)) :: r := by simp [glue]
      rw [e2] at ih
      show Ev _ (done ++ ((cur ++ (s.data.toList[i] :: p)) :: r).map ofL)
      have hlen : ((done ++ [ofL cur]).length : Int) - 1 = (done.length : Int) := by simp
      have hwl : wrap64 (((done ++ [ofL cur]).length : Int) - 1) = (done.length : Int) := by rw [hlen]; unfold wrap64; omega
      have hrd : rdOf ByteArray.empty (done ++ [ofL cur]) (done.length : Int) = ofL cur := by unfold rdOf; rw [Int.toNat_natCast]; simp
      have hex : s.extract ((i : Int)).toNat (((i + 1 : Nat) : Int)).toNat = ofL [s.data.toList[i]] := by
        rw [Int.toNat_natCast, Int.toNat_natCast, ext_ofL, List.drop_eq_getElem_cons hi]
        congr 1
        rw [show i + 1 - i = 1 by omega]
        rfl
      have hset : (done ++ [ofL cur]).set ((done.length : Int)).toNat (ofL cur ++ ofL [s.data.toList[i]]) = done ++ [ofL (cur ++ [s.data.toList[i]])] := by
        rw [Int.toNat_natCast, ofL_append]
        simp
      refine Ev.step (fun k => ?_) ih
      rw [bellmanref10_split.l0, if_pos (by omega), if_pos (by omega), if_neg (fun x => e (hb.1 x)), hwl, if_pos (by omega), if_pos (by simp only [List.length_append, List.length_cons, List.length_nil]; omega), hw, if_pos (by omega), if_pos (by omega), hrd, hex, if_pos (by rw [ofL_size, ofL_size]; simp; omega), hset]
theorem rsplit_f {s : ByteArray} (hs : s.size ≤ 1048576) (c : UInt8) : Ev (fun k => bellmanref10_split.f k s (c.toNat : Int)) (splB c s) := by
  unfold bellmanref10_split.f
  have h := rsplit_loop s c hs s.size 0 [] [] (by omega) (by simp) (by simp)
  rw [List.drop_zero, glue_nil (spl_ne _ _), List.nil_append] at h
  exact h
theorem splB_small {c : UInt8} {s : ByteArray} (hs : s.size ≤ 1048576) : (splB c s).length < 4611686018427387904 ∧ ∀ x ∈ splB c s, x.size < 4611686018427387904 := by
  refine ⟨?_, fun x hx => by have := piece_size hx; omega⟩
  unfold splB
  rw [List.length_map]
  have := (spl_bound c s.data.toList).1
  rw [← size_toL] at this
  omega
theorem rPath_f {s : ByteArray} (hs : s.size ≤ 1048576) : Ev (fun k => bellmanref10_Path.f k s) (pthM s) := by
  unfold bellmanref10_Path.f pthM
  have h46 : Ev (fun k => bellmanref10_split.f k s 46) (splB 46 s) := rsplit_f hs 46
  obtain ⟨h1, h2⟩ := splB_small (c := 46) hs
  refine Ev.bind h46 (f := fun k t155 => (bellmanref10_right.f k t155).bind fun t158 => if t158 = true then some (t155, 0) else some (([] : List ByteArray), 13)) ?_
  refine Ev.bind (rright_f h1 h2) (f := fun _ t158 => if t158 = true then some (splB 46 s, 0) else some (([] : List ByteArray), 13)) ?_
  cases rtM (splB 46 s) with
  | true => exact Ev.now _
  | false => exact Ev.now _
theorem rfind_loop (s : ByteArray) (c : UInt8) (hs : s.size ≤ 1048576) : ∀ (d i : Nat), i + d = s.size → Ev (fun k => bellmanref10_find.l0 k s (c.toNat : Int) (i : Int)) (match fnd c (s.data.toList.drop i) with | none => -1 | some j => ((i + j : Nat) : Int))
  | 0, i, h => by
    rw [List.drop_eq_nil_of_le (by rw [← size_toL]; omega)]
    exact Ev.step (f := fun _ => some (-1)) (fun k => by rw [bellmanref10_find.l0, if_neg (by unfold wrap64; omega)]) (Ev.now _)
  | 1, i, h => by
    have hl : (s.data.toList.drop i).length = 1 := by rw [List.length_drop, ← size_toL]; omega
    obtain ⟨x, hx⟩ := List.length_eq_one_iff.mp hl
    rw [hx]
    exact Ev.step (f := fun _ => some (-1)) (fun k => by rw [bellmanref10_find.l0, if_neg (by unfold wrap64; omega)]) (Ev.now _)
  | d + 2, i, h => by
    have hi : i < s.data.toList.length := by rw [← size_toL]; omega
    have hi2 : i + 1 < s.data.toList.length := by rw [← size_toL]; omega
    have hw : wrap64 ((i : Int) + 1) = ((i + 1 : Nat) : Int) := by unfold wrap64; omega
    have hd : s.data.toList.drop i = s.data.toList[i] :: s.data.toList[i + 1] :: s.data.toList.drop (i + 2) := by
      rw [List.drop_eq_getElem_cons hi, List.drop_eq_getElem_cons hi2]
    have b1 := bt_is s i hi c
    have b2 := bt_is s (i + 1) hi2 c
    have hst : ∀ k, bellmanref10_find.l0 (k + 1) s (c.toNat : Int) (i : Int) = if s.data.toList[i] = c ∧ s.data.toList[i + 1] = c then some (i : Int) else bellmanref10_find.l0 k s (c.toNat : Int) ((i + 1 : Nat) : Int) := by
      intro k
      rw [bellmanref10_find.l0, hw, if_pos (by omega), if_pos (by omega), if_pos (by omega)]
      by_cases c1 : s.data.toList[i] = c
      · rw [if_pos (b1.2 c1), if_pos (by omega)]
        by_cases c2 : s.data.toList[i + 1] = c
        · rw [if_pos (b2.2 c2), if_pos ⟨c1, c2⟩]
        · rw [if_neg (fun e => c2 (b2.1 e)), if_neg (fun e => c2 e.2)]
      · rw [if_neg (fun e => c1 (b1.1 e)), if_neg (fun e => c1 e.1)]
    rw [hd, fnd]
    by_cases x : s.data.toList[i] = c ∧ s.data.toList[i + 1] = c
    · rw [if_pos x]
      exact Ev.step (f := fun _ => some (i : Int)) (fun k => by rw [hst, if_pos x]) (Ev.now _)
    · rw [if_neg x]
      have ih := rfind_loop s c hs (d + 1) (i + 1) (by omega)
      rw [List.drop_eq_getElem_cons hi2] at ih
      refine Ev.step (fun k => by rw [hst, if_neg x]) ?_
      cases hf : fnd c (s.data.toList[i + 1] :: s.data.toList.drop (i + 1 + 1)) with
      | none =>
        rw [hf] at ih
        exact ih
      | some j =>
        rw [hf] at ih
        simp only [Option.map_some]
        have e : ((i + (j + 1) : Nat) : Int) = ((i + 1 + j : Nat) : Int) := by omega
        rw [e]
        exact ih
/-- What words say. -/
def tagW : List ByteArray → Option S40
  | [a] => if ownM a = 4 ∨ ownM a = 6 then some ⟨ownM a, (⟨#[]⟩ : ByteArray), []⟩ else if ownM a = 2 then (if (pthM a).2 = 0 then some ⟨2, (⟨#[]⟩ : ByteArray), (pthM a).1⟩ else none) else none
  | [a, b] => if ownM a = 3 ∨ ownM a = 5 then (if (pthM b).2 = 0 then some ⟨ownM a, (⟨#[]⟩ : ByteArray), (pthM b).1⟩ else none) else none
  | _ => none
theorem tagM_W (s : ByteArray) : tagM s = tagW ((splB 32 s).filter (fun x => !sc_empty x)) := rfl
/-- The definition's answer to a tag. -/
def RT (o : Option S40) (g : Nat → Option (Int × ByteArray × List ByteArray × Bool)) : Prop := ∃ r, Ev g r ∧ match o with | some t => r = (t.f0, t.f1, t.f2, true) | none => r.2.2.2 = false
theorem RT.step {o : Option S40} {g f : Nat → Option (Int × ByteArray × List ByteArray × Bool)} (h : ∀ k, g (k + 1) = f k) (k : RT o f) : RT o g := by
  obtain ⟨r, h1, h2⟩ := k
  exact ⟨r, Ev.step h h1, h2⟩
theorem own_if (a : ByteArray) : (a.toList == ([105, 102] : List UInt8)) = decide (ownM a = 3) := by
  rw [toList_data, Bool.eq_iff_iff, beq_iff_eq, decide_eq_true_eq]
  unfold ownM
  constructor
  · intro h; rw [if_pos h]
  · intro h
    split at h
    · assumption
    · repeat (split at h; · cases h)
      cases h
theorem own_else (a : ByteArray) : (a.toList == ([101, 108, 115, 101] : List UInt8)) = decide (ownM a = 4) := by
  rw [toList_data, Bool.eq_iff_iff, beq_iff_eq, decide_eq_true_eq]
  unfold ownM
  constructor
  · intro h; rw [if_neg (by rw [h]; decide), if_pos h]
  · intro h
    split at h
    · cases h
    · split at h
      · assumption
      · repeat (split at h; · cases h)
        cases h
theorem own_each (a : ByteArray) : (a.toList == ([101, 97, 99, 104] : List UInt8)) = decide (ownM a = 5) := by
  rw [toList_data, Bool.eq_iff_iff, beq_iff_eq, decide_eq_true_eq]
  unfold ownM
  constructor
  · intro h; rw [if_neg (by rw [h]; decide), if_neg (by rw [h]; decide), if_pos h]
  · intro h
    split at h
    · cases h
    · split at h
      · cases h
      · split at h
        · assumption
        · split at h <;> cases h
theorem own_end (a : ByteArray) : (a.toList == ([101, 110, 100] : List UInt8)) = decide (ownM a = 6) := by
  rw [toList_data, Bool.eq_iff_iff, beq_iff_eq, decide_eq_true_eq]
  unfold ownM
  constructor
  · intro h; rw [if_neg (by rw [h]; decide), if_neg (by rw [h]; decide), if_neg (by rw [h]; decide), if_pos h]
  · intro h
    split at h
    · cases h
    · split at h
      · cases h
      · split at h
        · cases h
        · split at h
          · assumption
          · cases h
/-- A word of the language is no path. -/
theorem own_path {a : ByteArray} (h : ownM a ≠ 2) : (pthM a).2 ≠ 0 := by
  have hn : (46 : UInt8) ∉ a.data.toList := by
    intro hm
    apply h
    unfold ownM
    rw [if_neg (fun e => by rw [e] at hm; revert hm; decide), if_neg (fun e => by rw [e] at hm; revert hm; decide), if_neg (fun e => by rw [e] at hm; revert hm; decide), if_neg (fun e => by rw [e] at hm; revert hm; decide)]
  have hs : splB 46 a = [a] := by unfold splB; rw [spl_none hn]; simp [ofL_data]
  unfold pthM
  rw [hs]
  have hr : rtM [a] = false := by
    unfold rtM
    simp [h]
  rw [hr]
  simp
theorem rt_path {a : ByteArray} (ha : a.size ≤ 1048576) (o : Int) : RT (if (pthM a).2 = 0 then some ⟨o, (⟨#[]⟩ : ByteArray), (pthM a).1⟩ else none) (fun k => (bellmanref10_Path.f k a).bind fun bt => some (o, (⟨#[]⟩ : ByteArray), bt.1, (bt.2 == 0))) := by
  refine ⟨(o, (⟨#[]⟩ : ByteArray), (pthM a).1, ((pthM a).2 == 0)), Ev.bind (rPath_f ha) (f := fun _ bt => some (o, (⟨#[]⟩ : ByteArray), bt.1, (bt.2 == 0))) (Ev.now _), ?_⟩
  by_cases c : (pthM a).2 = 0
  · rw [if_pos c]
    simp [c]
  · rw [if_neg c]
    simp [c]
theorem rt_none (l : List ByteArray) (h1 : l.length ≠ 1) (h2 : l.length ≠ 2) : RT none (fun k => bellmanref10_tag.j1 k l false) := by
  refine RT.step (f := fun k => bellmanref10_tag.j2 k l false) (fun k => by rw [bellmanref10_tag.j1, if_neg (by decide), if_neg (by omega)]) ?_
  refine RT.step (f := fun k => bellmanref10_tag.j3 k l 2 false) (fun k => by rw [bellmanref10_tag.j2, if_neg (by decide), if_neg (by omega)]) ?_
  refine RT.step (f := fun k => bellmanref10_tag.j4 k l 2 false) (fun k => by rw [bellmanref10_tag.j3, if_neg (by decide), if_neg (by omega)]) ?_
  exact RT.step (f := fun _ => some ((0 : Int), (⟨#[]⟩ : ByteArray), ([] : List ByteArray), false)) (fun k => by rw [bellmanref10_tag.j4, if_neg (by decide), if_neg (by omega)]) ⟨_, Ev.now _, rfl⟩
theorem rt_one {a : ByteArray} (ha : a.size ≤ 1048576) : RT (tagW [a]) (fun k => bellmanref10_tag.j1 k [a] (a.toList == ([101, 108, 115, 101] : List UInt8))) := by
  have h0 : rdOf ByteArray.empty [a] 0 = a := rfl
  have hl : ((([a] : List ByteArray).length : Nat) : Int) = 1 := rfl
  rw [own_else]
  have j2f : ownM a ≠ 4 → RT (tagW [a]) (fun k => bellmanref10_tag.j2 k [a] (decide (ownM a = 6))) := by
    intro h4
    by_cases h6 : ownM a = 6
    · rw [decide_eq_true h6]
      have e : tagW [a] = some ⟨6, (⟨#[]⟩ : ByteArray), []⟩ := by rw [tagW, if_pos (Or.inr h6), h6]
      rw [e]
      exact RT.step (f := fun _ => some ((6 : Int), (⟨#[]⟩ : ByteArray), ([] : List ByteArray), true)) (fun k => by rw [bellmanref10_tag.j2, if_pos rfl]) ⟨_, Ev.now _, rfl⟩
    · rw [decide_eq_false h6]
      refine RT.step (f := fun k => bellmanref10_tag.j3 k [a] 2 false) (fun k => by rw [bellmanref10_tag.j2, if_neg (by decide), if_neg (by rw [hl]; decide)]) ?_
      refine RT.step (f := fun k => bellmanref10_tag.j4 k [a] 2 false) (fun k => by rw [bellmanref10_tag.j3, if_neg (by decide), if_neg (by rw [hl]; decide)]) ?_
      refine RT.step (f := fun k => (bellmanref10_Path.f k a).bind fun bt => some (2, (⟨#[]⟩ : ByteArray), bt.1, (bt.2 == 0))) (fun k => by rw [bellmanref10_tag.j4, if_neg (by decide), if_pos hl, if_pos (by rw [hl]; decide), h0]) ?_
      have e : tagW [a] = if (pthM a).2 = 0 then some ⟨2, (⟨#[]⟩ : ByteArray), (pthM a).1⟩ else none := by
        rw [tagW, if_neg (fun e => e.elim h4 h6)]
        by_cases h2 : ownM a = 2
        · rw [if_pos h2]
        · rw [if_neg h2, if_neg (own_path h2)]
      rw [e]
      exact rt_path ha 2
  by_cases h4 : ownM a = 4
  · rw [decide_eq_true h4]
    have e : tagW [a] = some ⟨4, (⟨#[]⟩ : ByteArray), []⟩ := by rw [tagW, if_pos (Or.inl h4), h4]
    rw [e]
    exact RT.step (f := fun _ => some ((4 : Int), (⟨#[]⟩ : ByteArray), ([] : List ByteArray), true)) (fun k => by rw [bellmanref10_tag.j1, if_pos rfl]) ⟨_, Ev.now _, rfl⟩
  · rw [decide_eq_false h4]
    refine RT.step (f := fun k => bellmanref10_tag.j2 k [a] (decide (ownM a = 6))) (fun k => ?_) (j2f h4)
    rw [bellmanref10_tag.j1, if_neg (by decide), if_pos hl, if_pos (by rw [hl]; decide), h0, own_end]
theorem rt_two {a b : ByteArray} (hb : b.size ≤ 1048576) : RT (tagW [a, b]) (fun k => bellmanref10_tag.j1 k [a, b] false) := by
  have h0 : rdOf ByteArray.empty [a, b] 0 = a := rfl
  have hl : ((([a, b] : List ByteArray).length : Nat) : Int) = 2 := rfl
  have hdr : ([a, b] : List ByteArray).drop (1 : Int).toNat = [b] := rfl
  have h1 : rdOf ByteArray.empty [b] 0 = b := rfl
  have hl1 : ((([b] : List ByteArray).length : Nat) : Int) = 1 := rfl
  refine RT.step (f := fun k => bellmanref10_tag.j2 k [a, b] false) (fun k => by rw [bellmanref10_tag.j1, if_neg (by decide), if_neg (by rw [hl]; decide)]) ?_
  refine RT.step (f := fun k => bellmanref10_tag.j3 k [a, b] 2 (decide (ownM a = 3))) (fun k => by rw [bellmanref10_tag.j2, if_neg (by decide), if_pos hl, if_pos (by rw [hl]; decide), h0, own_if]) ?_
  by_cases h3 : ownM a = 3
  · rw [decide_eq_true h3]
    have e : tagW [a, b] = if (pthM b).2 = 0 then some ⟨3, (⟨#[]⟩ : ByteArray), (pthM b).1⟩ else none := by rw [tagW, if_pos (Or.inl h3), h3]
    rw [e]
    refine RT.step (f := fun k => (bellmanref10_Path.f k b).bind fun bt => some (3, (⟨#[]⟩ : ByteArray), bt.1, (bt.2 == 0))) (fun k => ?_) (rt_path hb 3)
    rw [bellmanref10_tag.j3, if_pos rfl, if_pos (by rw [hl]; decide), hdr, Option.bind_some, if_pos hl1, if_pos (by rw [hl1]; decide), h1]
  · rw [decide_eq_false h3]
    refine RT.step (f := fun k => bellmanref10_tag.j4 k [a, b] 2 (decide (ownM a = 5))) (fun k => by rw [bellmanref10_tag.j3, if_neg (by decide), if_pos hl, if_pos (by rw [hl]; decide), h0, own_each]) ?_
    by_cases h5 : ownM a = 5
    · rw [decide_eq_true h5]
      have e : tagW [a, b] = if (pthM b).2 = 0 then some ⟨5, (⟨#[]⟩ : ByteArray), (pthM b).1⟩ else none := by rw [tagW, if_pos (Or.inr h5), h5]
      rw [e]
      refine RT.step (f := fun k => (bellmanref10_Path.f k b).bind fun bt => some (5, (⟨#[]⟩ : ByteArray), bt.1, (bt.2 == 0))) (fun k => ?_) (rt_path hb 5)
      rw [bellmanref10_tag.j4, if_pos rfl, if_pos (by rw [hl]; decide), hdr, Option.bind_some, if_pos hl1, if_pos (by rw [hl1]; decide), h1]
    · rw [decide_eq_false h5]
      have e : tagW [a, b] = none := by rw [tagW, if_neg (fun e => e.elim h3 h5)]
      rw [e]
      exact RT.step (f := fun _ => some ((0 : Int), (⟨#[]⟩ : ByteArray), ([] : List ByteArray), false)) (fun k => by rw [bellmanref10_tag.j4, if_neg (by decide), if_neg (by rw [hl]; decide)]) ⟨_, Ev.now _, rfl⟩
theorem rt_words {W : List ByteArray} (hW : ∀ x ∈ W, x.size ≤ 1048576) : RT (tagW W) (fun k => if (W.length : Int) = 1 then (if 0 < (W.length : Int) then bellmanref10_tag.j1 k W ((rdOf ByteArray.empty W 0).toList == ([101, 108, 115, 101] : List UInt8)) else none) else bellmanref10_tag.j1 k W false) := by
  match W, hW with
  | [], _ =>
    simp only [List.length_nil]
    exact rt_none [] (by simp) (by simp)
  | [a], h =>
    have := rt_one (h a (List.mem_singleton_self _))
    exact this
  | [a, b], h => exact rt_two (h b (by simp))
  | a :: b :: c :: r, h =>
    simp only [if_neg (show ¬ (((a :: b :: c :: r).length : Int) = 1) by simp only [List.length_cons]; omega)]
    exact rt_none _ (by simp) (by simp)
theorem rtag_loop (l : List ByteArray) (hl : l.length ≤ 1048577) (o : Option S40) : ∀ (d i : Nat) (out : List ByteArray), i + d = l.length → out.length ≤ i →
    RT o (fun k => if ((out ++ (l.drop i).filter (fun x => !sc_empty x)).length : Int) = 1 then (if 0 < ((out ++ (l.drop i).filter (fun x => !sc_empty x)).length : Int) then bellmanref10_tag.j1 k (out ++ (l.drop i).filter (fun x => !sc_empty x)) ((rdOf ByteArray.empty (out ++ (l.drop i).filter (fun x => !sc_empty x)) 0).toList == ([101, 108, 115, 101] : List UInt8)) else none) else bellmanref10_tag.j1 k (out ++ (l.drop i).filter (fun x => !sc_empty x)) false) →
    RT o (fun k => bellmanref10_tag.l0 k out l (l.length : Int) (i : Int))
  | 0, i, out, h, ho, H => by
    rw [List.drop_eq_nil_of_le (by omega), List.filter_nil, List.append_nil] at H
    exact RT.step (fun k => by rw [bellmanref10_tag.l0, if_neg (by omega)]) H
  | d + 1, i, out, h, ho, H => by
    have hi : i < l.length := by omega
    have e : rdOf ByteArray.empty l (i : Int) = l[i] := by unfold rdOf; rw [Int.toNat_natCast, List.getD_eq_getElem?_getD, List.getElem?_eq_getElem hi]; rfl
    have hst : ∀ k, bellmanref10_tag.l0 (k + 1) out l (l.length : Int) (i : Int) = if sc_empty l[i] = true then bellmanref10_tag.l0 k out l (l.length : Int) ((i + 1 : Nat) : Int) else bellmanref10_tag.l0 k (out ++ [l[i]]) l (l.length : Int) ((i + 1 : Nat) : Int) := by
      intro k
      rw [bellmanref10_tag.l0, if_pos (by omega), if_pos (by omega), if_pos (by omega), e, w_one (by omega)]
      by_cases c : sc_empty l[i] = true
      · rw [if_pos ((sc_empty_iff _).2 c), if_pos c]
      · rw [if_neg (fun x => c ((sc_empty_iff _).1 x)), if_neg c, if_pos (by omega)]
    rw [List.drop_eq_getElem_cons hi, List.filter_cons] at H
    by_cases c : sc_empty l[i] = true
    · rw [if_neg (by rw [c]; decide)] at H
      exact RT.step (fun k => by rw [hst, if_pos c]) (rtag_loop l hl o d (i + 1) out (by omega) (by omega) H)
    · rw [if_pos (by simpa using c)] at H
      have H2 := rtag_loop l hl o d (i + 1) (out ++ [l[i]]) (by omega) (by simp; omega) (by rw [List.append_assoc]; exact H)
      exact RT.step (fun k => by rw [hst, if_neg c]) H2
theorem rtag_f {s : ByteArray} (hs : s.size ≤ 1048576) : RT (tagM s) (fun k => bellmanref10_tag.f k s) := by
  rw [tagM_W]
  have hlen : (splB 32 s).length ≤ 1048577 := by
    unfold splB
    rw [List.length_map]
    have := (spl_bound 32 s.data.toList).1
    rw [← size_toL] at this
    omega
  have hW : ∀ x ∈ (splB 32 s).filter (fun x => !sc_empty x), x.size ≤ 1048576 := fun x hx => by have := piece_size (List.mem_filter.mp hx).1; omega
  have h := rtag_loop (splB 32 s) hlen _ (splB 32 s).length 0 [] (by omega) (by simp) (by rw [List.drop_zero, List.nil_append]; exact rt_words hW)
  have h32 : Ev (fun k => bellmanref10_split.f k s 32) (splB 32 s) := rsplit_f hs 32
  obtain ⟨r, h1, h2⟩ := h
  exact ⟨r, by unfold bellmanref10_tag.f; exact Ev.bind h32 (f := fun k t160 => bellmanref10_tag.l0 k ([] : List ByteArray) t160 (t160.length : Int) 0) h1, h2⟩
theorem fnd_nil_ne {c : UInt8} {l : List UInt8} {i : Nat} (h : fnd c l = some i) : l ≠ [] := by
  intro e; rw [e] at h; cases h
theorem tkM_nil (n : Nat) (out : List S40) : tkM (n + 1) [] out = (out, 0) := by rw [tkM, if_pos rfl]
theorem tkM_text {n : Nat} {s : List UInt8} {out : List S40} (h : s ≠ []) (hf : fnd 123 s = none) : tkM (n + 1) s out = (out ++ [txt s], 0) := by
  rw [tkM, if_neg h, hf]
theorem tkM_code {n : Nat} {s : List UInt8} {out : List S40} {i : Nat} (hf : fnd 123 s = some i) (hg : fnd 125 (s.drop (i + 2)) = none) : tkM (n + 1) s out = ([], 7) := by
  rw [tkM, if_neg (fnd_nil_ne hf), hf]
  simp only
  rw [hg]
theorem tkM_bad {n : Nat} {s : List UInt8} {out : List S40} {i j : Nat} (hf : fnd 123 s = some i) (hg : fnd 125 (s.drop (i + 2)) = some j) (ht : tagM (ofL ((s.drop (i + 2)).take j)) = none) : tkM (n + 1) s out = ([], 7) := by
  rw [tkM, if_neg (fnd_nil_ne hf), hf]
  simp only
  rw [hg]
  simp only
  rw [ht]
theorem tkM_tag {n : Nat} {s : List UInt8} {out : List S40} {i j : Nat} {t : S40} (hf : fnd 123 s = some i) (hg : fnd 125 (s.drop (i + 2)) = some j) (ht : tagM (ofL ((s.drop (i + 2)).take j)) = some t) : tkM (n + 1) s out = tkM n ((s.drop (i + 2)).drop (j + 2)) ((if i = 0 then out else out ++ [txt (s.take i)]) ++ [t]) := by
  rw [tkM, if_neg (fnd_nil_ne hf), hf]
  simp only
  rw [hg]
  simp only
  rw [ht]
theorem rfind_f {s : ByteArray} (c : UInt8) (hs : s.size ≤ 1048576) {i : Nat} (hi : i ≤ s.size) : Ev (fun k => bellmanref10_find.f k s (i : Int) (c.toNat : Int)) (match fnd c (s.data.toList.drop i) with | none => -1 | some j => ((i + j : Nat) : Int)) := rfind_loop s c hs (s.size - i) i (by omega)
theorem rfind_no {s : ByteArray} (c : UInt8) (hs : s.size ≤ 1048576) {i : Nat} (hi : i ≤ s.size) (h : fnd c (s.data.toList.drop i) = none) : Ev (fun k => bellmanref10_find.f k s (i : Int) (c.toNat : Int)) (-1) := by
  have := rfind_f c hs hi
  rwa [h] at this
theorem rfind_at {s : ByteArray} (c : UInt8) (hs : s.size ≤ 1048576) {i j : Nat} (hi : i ≤ s.size) (h : fnd c (s.data.toList.drop i) = some j) : Ev (fun k => bellmanref10_find.f k s (i : Int) (c.toNat : Int)) ((i + j : Nat) : Int) := by
  have := rfind_f c hs hi
  rwa [h] at this
theorem rtok_j2 (s : ByteArray) (hs : s.size ≤ 1024) {i : Nat} (hi : i + 2 ≤ s.size) {o2 : List S40} (ho : o2.length ≤ 4000) {r : List S40 × Int}
    (h0 : fnd 125 (s.data.toList.drop (i + 2)) = none → r = ([], 7))
    (h1 : ∀ m, fnd 125 (s.data.toList.drop (i + 2)) = some m → tagM (ofL ((s.data.toList.drop (i + 2)).take m)) = none → r = ([], 7))
    (h2 : ∀ m t, fnd 125 (s.data.toList.drop (i + 2)) = some m → tagM (ofL ((s.data.toList.drop (i + 2)).take m)) = some t → Ev (fun k => bellmanref10_Tokens.l0 k s (o2 ++ [t]) ((i + 2 + m + 2 : Nat) : Int)) r) :
    Ev (fun k => bellmanref10_Tokens.j2 k s o2 (i : Int)) r := by
  have hw : wrap64 ((i : Int) + 2) = ((i + 2 : Nat) : Int) := by unfold wrap64; omega
  let F : Nat → Int → Option (List S40 × Int) := fun k t196 => (if t196 < 0 then (some (([] : List S40), 7)) else (if ((i + 2 : Nat) : Int) ≤ t196 then (if t196 ≤ (s.size : Int) then ((bellmanref10_tag.f k (s.extract (((i + 2 : Nat) : Int)).toNat (t196 : Int).toNat)).bind fun bt197 => (if bt197.2.2.2 = true then (if o2.length < 2932031007402 then (bellmanref10_Tokens.l0 k s (o2 ++ [⟨bt197.1, bt197.2.1, bt197.2.2.1⟩]) (wrap64 (t196 + 2))) else (none)) else (some (([] : List S40), 7)))) else (none)) else (none)))
  have hst2 : ∀ k, bellmanref10_Tokens.j2 (k + 1) s o2 (i : Int) = (bellmanref10_find.f k s ((i + 2 : Nat) : Int) 125).bind (F k) := fun k => by
    rw [bellmanref10_Tokens.j2, if_neg (by omega), hw]
    simp only [if_pos (show (0 : Int) ≤ ((i + 2 : Nat) : Int) by omega), F]
  refine Ev.step hst2 ?_
  have hul2 : (s.data.toList.drop (i + 2)).length = s.size - (i + 2) := by rw [List.length_drop, ← size_toL]
  cases hg2 : fnd 125 (s.data.toList.drop (i + 2)) with
  | none =>
    refine Ev.bind (rfind_no 125 (by omega) (by omega) hg2) (f := F) ?_
    rw [h0 hg2]
    exact Ev.now _
  | some m =>
    have hm := fnd_le hg2
    rw [hul2] at hm
    refine Ev.bind (rfind_at 125 (by omega) (by omega) hg2) (f := F) ?_
    have he2 : s.extract (((i + 2 : Nat) : Int)).toNat (((i + 2 + m : Nat) : Int)).toNat = ofL ((s.data.toList.drop (i + 2)).take m) := by
      rw [Int.toNat_natCast, Int.toNat_natCast, ext_ofL, show i + 2 + m - (i + 2) = m by omega]
    have hw2 : wrap64 (((i + 2 + m : Nat) : Int) + 2) = ((i + 2 + m + 2 : Nat) : Int) := by unfold wrap64; omega
    have hF : ∀ k, F k ((i + 2 + m : Nat) : Int) = (bellmanref10_tag.f k (ofL ((s.data.toList.drop (i + 2)).take m))).bind fun bt197 => if bt197.2.2.2 = true then bellmanref10_Tokens.l0 k s (o2 ++ [⟨bt197.1, bt197.2.1, bt197.2.2.1⟩]) ((i + 2 + m + 2 : Nat) : Int) else some (([] : List S40), (7 : Int)) := fun k => by
      show (if _ then _ else _) = _
      rw [if_neg (by omega), if_pos (by omega), if_pos (by omega), he2, hw2]
      simp only [if_pos (show o2.length < 2932031007402 by omega)]
    obtain ⟨q, hr1, hr2⟩ := rtag_f (s := ofL ((s.data.toList.drop (i + 2)).take m)) (by rw [ofL_size, List.length_take]; omega)
    rw [show (fun k => F k ((i + 2 + m : Nat) : Int)) = _ from funext hF]
    refine Ev.bind hr1 (f := fun k bt197 => if bt197.2.2.2 = true then bellmanref10_Tokens.l0 k s (o2 ++ [⟨bt197.1, bt197.2.1, bt197.2.2.1⟩]) ((i + 2 + m + 2 : Nat) : Int) else some (([] : List S40), (7 : Int))) ?_
    cases ht : tagM (ofL ((s.data.toList.drop (i + 2)).take m)) with
    | none =>
      rw [ht] at hr2
      have hr3 : q.2.2.2 = false := hr2
      rw [h1 m hg2 ht]
      simp only [hr3, Bool.false_eq_true, if_false]
      exact Ev.now _
    | some t =>
      rw [ht] at hr2
      have hr3 : q = (t.f0, t.f1, t.f2, true) := hr2
      rw [hr3]
      simp only [if_true]
      exact h2 m t hg2 ht
theorem rtok_loop (s : ByteArray) (hs : s.size ≤ 1024) : ∀ (n i : Nat) (out : List S40), i ≤ s.size → s.size - i ≤ n → out.length ≤ 2 * i → Ev (fun k => bellmanref10_Tokens.l0 k s out (i : Int)) (tkM (n + 1) (s.data.toList.drop i) out)
  | n, i, out, hi, hn, ho => by
    have hul : (s.data.toList.drop i).length = s.size - i := by rw [List.length_drop, ← size_toL]
    by_cases a : s.data.toList.drop i = []
    · rw [a, tkM_nil]
      have : s.size - i = 0 := by rw [← hul, a]; rfl
      exact Ev.step (f := fun _ => some (out, 0)) (fun k => by rw [bellmanref10_Tokens.l0, if_neg (by omega)]) (Ev.now _)
    · have hlt : i < s.size := by
        have := List.length_pos_iff.mpr a
        omega
      let F : Nat → Int → Option (List S40 × Int) := fun k t192 => if t192 < 0 then bellmanref10_Tokens.j1 k s out (i : Int) (s.size : Int) else bellmanref10_Tokens.j1 k s out (i : Int) t192
      have hst : ∀ k, bellmanref10_Tokens.l0 (k + 1) s out (i : Int) = (bellmanref10_find.f k s (i : Int) 123).bind (F k) := fun k => by
        rw [bellmanref10_Tokens.l0, if_pos (by omega)]
      refine Ev.step hst ?_
      cases hg : fnd 123 (s.data.toList.drop i) with
      | none =>
        rw [tkM_text a hg]
        refine Ev.bind (rfind_no 123 (by omega) hi hg) (f := F) ?_
        have he : s.extract ((i : Int)).toNat ((s.size : Int)).toNat = ofL (s.data.toList.drop i) := by
          rw [Int.toNat_natCast, Int.toNat_natCast, ext_ofL, List.take_of_length_le (by omega)]
        show Ev (fun k => bellmanref10_Tokens.j1 k s out (i : Int) (s.size : Int)) _
        refine Ev.step (f := fun k => bellmanref10_Tokens.j2 k s (out ++ [txt (s.data.toList.drop i)]) (s.size : Int)) (fun k => ?_) ?_
        · rw [bellmanref10_Tokens.j1, if_pos (by omega), if_pos (by omega), if_pos (by omega), if_pos (by omega), if_pos (by omega), he]
          rfl
        · exact Ev.step (f := fun _ => some (out ++ [txt (s.data.toList.drop i)], 0)) (fun k => by rw [bellmanref10_Tokens.j2, if_pos rfl]) (Ev.now _)
      | some j =>
        have hj := fnd_le hg
        rw [hul] at hj
        refine Ev.bind (rfind_at 123 (by omega) hi hg) (f := F) ?_
        have hF : ∀ k, F k ((i + j : Nat) : Int) = bellmanref10_Tokens.j1 k s out (i : Int) ((i + j : Nat) : Int) := fun k => if_neg (by omega)
        rw [show (fun k => F k ((i + j : Nat) : Int)) = _ from funext hF]
        have he : s.extract ((i : Int)).toNat (((i + j : Nat) : Int)).toNat = ofL ((s.data.toList.drop i).take j) := by
          rw [Int.toNat_natCast, Int.toNat_natCast, ext_ofL, show i + j - i = j by omega]
        refine Ev.step (f := fun k => bellmanref10_Tokens.j2 k s (if j = 0 then out else out ++ [txt ((s.data.toList.drop i).take j)]) ((i + j : Nat) : Int)) (fun k => ?_) ?_
        · by_cases b : j = 0
          · subst b
            rw [bellmanref10_Tokens.j1, if_neg (by omega), if_pos rfl]
          · rw [bellmanref10_Tokens.j1, if_pos (by omega), if_pos (by omega), if_pos (by omega), if_pos (by omega), if_pos (by omega), he, if_neg b]
            rfl
        · have ho2 : (if j = 0 then out else out ++ [txt ((s.data.toList.drop i).take j)]).length ≤ out.length + 1 := by split <;> simp
          have hdr : (s.data.toList.drop i).drop (j + 2) = s.data.toList.drop (i + j + 2) := by rw [List.drop_drop]; congr 1
          refine rtok_j2 s hs (by omega) (by omega) (fun h => ?_) (fun m h ht => ?_) (fun m t h ht => ?_)
          · exact tkM_code hg (by rw [hdr]; exact h)
          · exact tkM_bad (j := m) hg (by rw [hdr]; exact h) (by rw [hdr]; exact ht)
          · have hm := fnd_le h
            have hul2 : (s.data.toList.drop (i + j + 2)).length = s.size - (i + j + 2) := by rw [List.length_drop, ← size_toL]
            rw [hul2] at hm
            obtain ⟨n2, rfl⟩ : ∃ n2, n = n2 + 1 := ⟨n - 1, by omega⟩
            rw [tkM_tag (j := m) (t := t) hg (by rw [hdr]; exact h) (by rw [hdr]; exact ht), hdr]
            have hdr2 : (s.data.toList.drop (i + j + 2)).drop (m + 2) = s.data.toList.drop (i + j + 2 + m + 2) := by rw [List.drop_drop]; congr 1
            rw [hdr2]
            exact rtok_loop s hs n2 (i + j + 2 + m + 2) _ (by omega) (by omega) (by simp only [List.length_append, List.length_cons, List.length_nil]; omega)
theorem rTokens_f (s : ByteArray) (hs : s.size ≤ 1048576) : Ev (fun k => bellmanref10_Tokens.f k s) (tokensM s) := by
  unfold bellmanref10_Tokens.f tokensM
  by_cases c : 1024 < s.size
  · simp only [if_pos (show (s.size : Int) > 1024 by omega), if_pos c]
    exact Ev.now _
  · simp only [if_neg (show ¬ (s.size : Int) > 1024 by omega), if_neg c]
    exact rtok_loop s (by omega) s.size 0 [] (by omega) (by omega) (by simp)

end Go.Proofs.YtcblmfcgjemgkaaDoor.XS
