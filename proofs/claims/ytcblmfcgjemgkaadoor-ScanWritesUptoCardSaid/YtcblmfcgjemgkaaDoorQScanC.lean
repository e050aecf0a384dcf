-- by a program of this session
import Derived.Test.YtcblmfcgjemgkaaDoorQScanP
import Derived.Lib.Join
import Derived.Test.YtcblmfcgjemgkaaDoorXS13
set_option linter.unusedVariables false
set_option linter.unusedSimpArgs false
/-! Templates' tokens, in plain lists: right ones, and their text; what is written is read, what is read is written. -/
namespace Go.Proofs.YtcblmfcgjemgkaaDoor.XS
open Go.RowKit Go.Proofs.YtcblmfcgjemgkaaDoorW.PrintWords Go.Proofs.YtcblmfcgjemgkaaDoorW.PrintLast Go.Proofs.YtcblmfcgjemgkaaDoorW.PrintMore
theorem w_one {i : Nat} (h : i < 4611686018427387904) : wrap64 ((i : Int) + 1) = ((i + 1 : Nat) : Int) := by unfold wrap64; omega
theorem bt_is (s : ByteArray) (i : Nat) (h : i < s.data.toList.length) (c : UInt8) : bt s (i : Int) = (c.toNat : Int) ↔ s.data.toList[i] = c := by
  have e : bt s (i : Int) = ((s.data.toList[i]).toNat : Int) := by
    have h2 : i < s.size := by rw [size_toL]; exact h
    unfold bt
    rw [Int.toNat_natCast, dif_pos h2]
    rfl
  rw [e]
  constructor
  · intro h; exact UInt8.toNat_inj.mp (by omega)
  · intro h; rw [h]
theorem ext_ofL (s : ByteArray) (a b : Nat) : s.extract a b = ofL ((s.data.toList.drop a).take (b - a)) := by
  rw [← ofL_data (s.extract a b), Lib.extract_data]
theorem ofL_append (a b : List UInt8) : ofL a ++ ofL b = ofL (a ++ b) := by
  apply ByteArray.ext
  apply Array.ext'
  show (ofL a ++ ofL b).data.toList = (ofL _).data.toList
  rw [ofL_toL, ByteArray.data_append, Array.toList_append]
  simp [ofL]
theorem sc_empty_iff (x : ByteArray) : x.toList = ([] : List UInt8) ↔ sc_empty x = true := by
  unfold sc_empty
  rw [toList_data, decide_eq_true_eq, size_toL]
  constructor
  · intro h; rw [h]; rfl
  · intro h; exact List.eq_nil_of_length_eq_zero h
theorem fnd_skip {c : UInt8} : ∀ {x : List UInt8} (r : List UInt8), fnd c x = none → x.getLast? ≠ some c → fnd c (x ++ c :: c :: r) = some x.length
  | [], r, _, _ => by rw [List.nil_append, fnd, if_pos ⟨rfl, rfl⟩]; rfl
  | [a], r, _, h => by
    have ha : a ≠ c := fun e => h (by rw [e]; rfl)
    show fnd c (a :: c :: c :: r) = _
    rw [fnd, if_neg (fun e => ha e.1), fnd, if_pos ⟨rfl, rfl⟩]
    rfl
  | a :: b :: x, r, h1, h2 => by
    rw [fnd] at h1
    split at h1
    · cases h1
    · rename_i hn
      have h1' : fnd c (b :: x) = none := by
        cases e : fnd c (b :: x) with
        | none => rfl
        | some i => rw [e] at h1; cases h1
      have ih := fnd_skip (x := b :: x) r h1' (by rwa [List.getLast?_cons_cons] at h2)
      show fnd c (a :: b :: (x ++ c :: c :: r)) = _
      rw [fnd, if_neg hn]
      rw [List.cons_append] at ih
      rw [ih]
      rfl
theorem fnd_not_mem {c : UInt8} : ∀ {x : List UInt8}, c ∉ x → fnd c x = none
  | [], _ => rfl
  | [_], _ => rfl
  | a :: b :: x, h => by
    rw [fnd, if_neg (fun (e : a = c ∧ b = c) => h (by rw [e.1]; exact List.mem_cons_self ..)), fnd_not_mem (fun e => h (List.mem_cons_of_mem _ e))]
    rfl
theorem fnd_at {c : UInt8} {x : List UInt8} (r : List UInt8) (h : c ∉ x) : fnd c (x ++ c :: c :: r) = some x.length :=
  fnd_skip r (fnd_not_mem h) (fun e => h (List.mem_of_getLast? e))
/-- What is ahead of the first two of a byte has no two, and does not end in one. -/
theorem fnd_take {c : UInt8} : ∀ {l : List UInt8} {i : Nat}, fnd c l = some i → fnd c (l.take i) = none ∧ (l.take i).getLast? ≠ some c ∧ l = l.take i ++ c :: c :: l.drop (i + 2)
  | [], _, h => by cases h
  | [_], _, h => by cases h
  | x :: y :: l, i, h => by
    rw [fnd] at h
    split at h
    · rename_i e
      cases h
      obtain ⟨rfl, rfl⟩ := e
      exact ⟨rfl, by simp, rfl⟩
    · rename_i hn
      obtain ⟨j, hj, rfl⟩ := Option.map_eq_some_iff.mp h
      obtain ⟨h1, h2, h3⟩ := fnd_take hj
      have e : (x :: y :: l).take (j + 1) = x :: (y :: l).take j := rfl
      have e2 : (x :: y :: l).drop (j + 1 + 2) = (y :: l).drop (j + 2) := rfl
      rw [e, e2]
      refine ⟨?_, ?_, by rw [List.cons_append, ← h3]⟩
      · cases j with
        | zero => rfl
        | succ j =>
          rw [List.take_succ_cons] at h1 ⊢
          rw [fnd, if_neg hn, h1]
          rfl
      · cases j with
        | zero =>
          rw [List.take_zero] at h3 ⊢
          simp only [List.nil_append, List.cons.injEq] at h3
          intro hx
          simp only [List.getLast?_singleton, Option.some.injEq] at hx
          exact hn ⟨hx, h3.1⟩
        | succ j =>
          rw [List.take_succ_cons] at h2 ⊢
          rwa [List.getLast?_cons_cons]
theorem spl_app {c : UInt8} : ∀ {p : List UInt8} (r : List UInt8), c ∉ p → spl c (p ++ c :: r) = p :: spl c r
  | [], r, _ => by rw [List.nil_append, spl, if_pos rfl]
  | x :: p, r, h => by
    have h1 : x ≠ c := fun e => h (e ▸ List.mem_cons_self ..)
    rw [List.cons_append, spl, if_neg h1, spl_app r (fun e => h (List.mem_cons_of_mem _ e))]
theorem join_two (c : UInt8) (x y : List UInt8) (r : List (List UInt8)) : Lib.join (x :: y :: r) [c] = x ++ c :: Lib.join (y :: r) [c] := by
  rw [Lib.join_cons, Lib.join_cons]
  simp [Lib.joinTail]
theorem spl_join {c : UInt8} : ∀ {ps : List (List UInt8)}, ps ≠ [] → (∀ p ∈ ps, c ∉ p) → spl c (Lib.join ps [c]) = ps
  | [], h, _ => absurd rfl h
  | [p], _, h => by rw [Lib.join_one, spl_none (h p (List.mem_singleton_self _))]
  | p :: q :: ps, _, h => by
    rw [join_two, spl_app _ (h p (List.mem_cons_self ..)), spl_join (by simp) (fun x hx => h x (List.mem_cons_of_mem _ hx))]
theorem join_spl (c : UInt8) : ∀ l : List UInt8, Lib.join (spl c l) [c] = l
  | [] => by rw [spl, Lib.join_one]
  | x :: l => by
    have ih := join_spl c l
    rw [spl]
    split
    · rename_i e
      obtain ⟨p, r, hsp⟩ : ∃ p r, spl c l = p :: r := List.exists_cons_of_ne_nil (spl_ne _ _)
      rw [hsp] at ih ⊢
      rw [join_two, ih, e]
      rfl
    · split
      · rename_i e
        exact absurd e (spl_ne _ _)
      · rename_i p r e
        rw [e, Lib.join_cons] at ih
        rw [Lib.join_cons, List.cons_append, ih]
theorem spl_lens (c : UInt8) : ∀ l : List UInt8, ((spl c l).map fun p => p.length + 1).sum = l.length + 1
  | [] => rfl
  | x :: l => by
    have ih := spl_lens c l
    rw [spl]
    split
    · simp only [List.map_cons, List.sum_cons, List.length_nil, ih, List.length_cons]
      omega
    · split
      · rename_i e
        exact absurd e (spl_ne _ _)
      · rename_i p r e
        rw [e] at ih
        simp only [List.map_cons, List.sum_cons, List.length_cons] at ih ⊢
        omega
theorem filter_sum {α : Type} (f : α → Nat) (p : α → Bool) : ∀ l : List α, ((l.filter p).map f).sum ≤ (l.map f).sum
  | [] => Nat.le_refl _
  | x :: l => by
    have ih := filter_sum f p l
    rw [List.filter_cons]
    split <;> simp only [List.map_cons, List.sum_cons] <;> omega
/-- The words within a tag, and a space behind each, are not longer than it. -/
theorem words_sum (s : ByteArray) : (((splB 32 s).filter (fun x => !sc_empty x)).map fun p => p.size + 1).sum ≤ s.size + 1 := by
  refine Nat.le_trans (filter_sum _ _ _) ?_
  unfold splB
  rw [List.map_map]
  have e : ((fun p : ByteArray => p.size + 1) ∘ ofL) = fun p : List UInt8 => p.length + 1 := by funext p; simp only [Function.comp_apply, ofL_size]
  rw [e, spl_lens, ← size_toL]
  exact Nat.le_refl _
/-- What a name has: small letters, digits and bars. -/
theorem nmc_byte {i : Nat} {b : Int} (h : nmc i b = true) : b ≠ 46 ∧ b ≠ 32 ∧ b ≠ 125 ∧ b ≠ 123 := by
  unfold nmc at h
  simp only [Bool.or_eq_true, Bool.and_eq_true, decide_eq_true_eq] at h
  omega
theorem nmr_byte (s : ByteArray) : ∀ (d i : Nat), nmr s i d = true → ∀ j, i ≤ j → j < i + d → nmc j (bt s (j : Int)) = true
  | 0, i, _, j, h1, h2 => absurd h2 (by omega)
  | d + 1, i, h, j, h1, h2 => by
    have e : nmr s i (d + 1) = (nmc i (bt s (i : Int)) && nmr s (i + 1) d) := rfl
    rw [e, Bool.and_eq_true] at h
    by_cases c : j = i
    · rw [c]; exact h.1
    · exact nmr_byte s d (i + 1) h.2 j (by omega) (by omega)
theorem nm_facts {s : ByteArray} (h : nm s = true) : 0 < s.size ∧ s.size ≤ 32 ∧ nmr s 0 s.size = true := by
  unfold nm at h
  simp only [Bool.and_eq_true, decide_eq_true_eq] at h
  exact ⟨h.1, h.2.1, h.2.2⟩
theorem nm_bytes {s : ByteArray} (h : nm s = true) : ∀ c ∈ s.data.toList, c ≠ 46 ∧ c ≠ 32 ∧ c ≠ 125 ∧ c ≠ 123 := by
  intro c hc
  obtain ⟨j, hj, rfl⟩ := List.getElem_of_mem hc
  have h3 := nmr_byte s s.size 0 (nm_facts h).2.2 j (by omega) (by rw [size_toL]; omega)
  have e : bt s (j : Int) = ((s.data.toList[j]).toNat : Int) := by
    have h2 : j < s.size := by rw [size_toL]; exact hj
    unfold bt
    rw [Int.toNat_natCast, dif_pos h2]
    rfl
  rw [e] at h3
  have h4 := nmc_byte h3
  refine ⟨?_, ?_, ?_, ?_⟩ <;> intro e <;> rw [e] at h4 <;> simp at h4
/-- A token that is right by itself. -/
def fineM (t : S40) (next text : Bool) : Bool :=
  if t.f0 = 1 then !sc_empty t.f1 && (decide (t.f2.length = 0) && ((fnd 123 t.f1.data.toList).isNone && (!text && !(next && decide (t.f1.data.toList.getLast? = some 123)))))
  else if t.f0 = 2 ∨ t.f0 = 3 ∨ t.f0 = 5 then sc_empty t.f1 && rtM t.f2
  else if t.f0 = 4 ∨ t.f0 = 6 then sc_empty t.f1 && decide (t.f2.length = 0) else false
/-- Tokens that are right. -/
def checkM : List S40 → Bool
  | [] => true
  | [t] => fineM t false false
  | t :: u :: l => fineM t true (decide (u.f0 = 1)) && checkM (u :: l)
theorem emp_eq {s : ByteArray} (h : sc_empty s = true) : s = (⟨#[]⟩ : ByteArray) := by
  unfold sc_empty at h
  rw [decide_eq_true_eq, size_toL] at h
  rw [← ofL_data s, List.eq_nil_of_length_eq_zero h]
  rfl
theorem emp_ofL {l : List UInt8} (h : l ≠ []) : sc_empty (ofL l) = false := by
  unfold sc_empty
  rw [decide_eq_false_iff_not, ofL_size]
  intro e
  exact h (List.eq_nil_of_length_eq_zero e)
theorem sc_empty_nil (l : List UInt8) : sc_empty (ofL l) = decide (l = []) := by
  cases l with
  | nil => rfl
  | cons x l => rw [emp_ofL (by simp)]; rfl
/-- What stands within a token's tag. -/
def inM (t : S40) : List UInt8 := (sc_head t).data.toList ++ Lib.join (t.f2.map (·.data.toList)) [46]
theorem toL_append (a b : ByteArray) : (a ++ b).data.toList = a.data.toList ++ b.data.toList := by rw [ByteArray.data_append, Array.toList_append]
theorem sc_tag_in (t : S40) : (sc_tag t).data.toList = 123 :: 123 :: (inM t ++ [125, 125]) := by
  unfold sc_tag inM sc_join
  rw [toL_append, toL_append, toL_append]
  simp
theorem sc_head_2 (x : ByteArray) (p : List ByteArray) : (sc_head ⟨2, x, p⟩).data.toList = [] := by
  have hw : sc_words 2 = (⟨#[]⟩ : ByteArray) := rfl
  unfold sc_head
  simp only
  rw [hw, if_pos (by rw [toList_data])]
theorem sc_head_w {k : Int} {x w : ByteArray} {p : List ByteArray} (hw : sc_words k = w) (hn : w.data.toList ≠ []) (hp : 0 < p.length) : (sc_head ⟨k, x, p⟩).data.toList = w.data.toList ++ [32] := by
  unfold sc_head
  simp only
  rw [hw, if_neg (by rw [toList_data]; exact hn), if_pos hp, toL_append]
theorem sc_head_0 (k : Int) (x : ByteArray) : sc_head ⟨k, x, []⟩ = sc_words k := by
  unfold sc_head
  simp
theorem inM_0 (k : Int) (x : ByteArray) : inM ⟨k, x, []⟩ = (sc_words k).data.toList := by
  unfold inM
  rw [sc_head_0]
  exact List.append_nil _
/-- A path's word. -/
theorem splB_ofL (c : UInt8) (l : List UInt8) : splB c (ofL l) = (spl c l).map ofL := by unfold splB; rw [ofL_toL]
theorem rtM_facts {l : List ByteArray} (h : rtM l = true) : 1 ≤ l.length ∧ l.length ≤ 4 ∧ (l.length ≠ 1 ∨ ownM (l.getD 0 ByteArray.empty) = 2) ∧ ∀ x ∈ l, nm x = true := by
  unfold rtM at h
  simp only [Bool.and_eq_true, Bool.or_eq_true, decide_eq_true_eq, List.all_eq_true] at h
  exact ⟨h.1, h.2.1, h.2.2.1, h.2.2.2⟩
theorem path_split {l : List ByteArray} (h : rtM l = true) : splB 46 (ofL (Lib.join (l.map (·.data.toList)) [46])) = l := by
  obtain ⟨h1, _, _, h4⟩ := rtM_facts h
  rw [splB_ofL, spl_join, map_ofL]
  · intro e
    rw [List.map_eq_nil_iff] at e
    rw [e] at h1
    simp at h1
  · intro p hp
    obtain ⟨x, hx, rfl⟩ := List.mem_map.mp hp
    intro hc
    exact (nm_bytes (h4 x hx) 46 hc).1 rfl
theorem path_pth {l : List ByteArray} (h : rtM l = true) : pthM (ofL (Lib.join (l.map (·.data.toList)) [46])) = (l, 0) := by
  unfold pthM
  rw [path_split h, if_pos h]
theorem mem_join {c d : UInt8} : ∀ {ps : List (List UInt8)}, d ∈ Lib.join ps [c] → d = c ∨ ∃ p ∈ ps, d ∈ p
  | [], h => by cases h
  | [p], h => by rw [Lib.join_one] at h; exact Or.inr ⟨p, List.mem_singleton_self _, h⟩
  | p :: q :: ps, h => by
    rw [join_two] at h
    rcases List.mem_append.mp h with h | h
    · exact Or.inr ⟨p, List.mem_cons_self .., h⟩
    · rcases List.mem_cons.mp h with h | h
      · exact Or.inl h
      · rcases mem_join h with h | ⟨x, hx, h⟩
        · exact Or.inl h
        · exact Or.inr ⟨x, List.mem_cons_of_mem _ hx, h⟩
theorem path_bytes {l : List ByteArray} (h : rtM l = true) : ∀ c ∈ Lib.join (l.map (·.data.toList)) [46], c ≠ 32 ∧ c ≠ 125 ∧ c ≠ 123 := by
  intro c hc
  rcases mem_join hc with rfl | ⟨p, hp, hc⟩
  · decide
  · obtain ⟨x, hx, rfl⟩ := List.mem_map.mp hp
    have := nm_bytes ((rtM_facts h).2.2.2 x hx) c hc
    exact ⟨this.2.1, this.2.2.1, this.2.2.2⟩
theorem path_ne {l : List ByteArray} (h : rtM l = true) : Lib.join (l.map (·.data.toList)) [46] ≠ [] := by
  obtain ⟨h1, _, _, h4⟩ := rtM_facts h
  match l, h1, h4 with
  | x :: r, _, h4 =>
    have := (nm_facts (h4 x (List.mem_cons_self ..))).1
    rw [size_toL] at this
    rw [List.map_cons, Lib.join_cons]
    intro e
    have e2 := congrArg List.length e
    simp only [List.length_append, List.length_nil] at e2
    omega
theorem own_mem {s : ByteArray} {c : UInt8} (hc : c ∈ s.data.toList) (h : c = 46) : ownM s = 2 := by
  subst h
  unfold ownM
  rw [if_neg (fun e => by rw [e] at hc; revert hc; decide), if_neg (fun e => by rw [e] at hc; revert hc; decide), if_neg (fun e => by rw [e] at hc; revert hc; decide), if_neg (fun e => by rw [e] at hc; revert hc; decide)]
theorem path_own {l : List ByteArray} (h : rtM l = true) : ownM (ofL (Lib.join (l.map (·.data.toList)) [46])) = 2 := by
  obtain ⟨h1, _, h3, _⟩ := rtM_facts h
  match l, h1, h3 with
  | [x], _, h3 =>
    rcases h3 with h3 | h3
    · exact absurd rfl h3
    · rw [List.map_cons, List.map_nil, Lib.join_one, ofL_data]
      exact h3
  | x :: y :: r, _, _ =>
    refine own_mem (c := 46) ?_ rfl
    rw [ofL_toL, List.map_cons, List.map_cons, join_two]
    simp
theorem tag_one {w : List UInt8} (hw : w ≠ []) (h : (32 : UInt8) ∉ w) : (splB 32 (ofL w)).filter (fun x => !sc_empty x) = [ofL w] := by
  rw [splB_ofL, spl_none h]
  simp [emp_ofL hw]
theorem tag_two {a b : List UInt8} (ha : a ≠ []) (hb : b ≠ []) (h1 : (32 : UInt8) ∉ a) (h2 : (32 : UInt8) ∉ b) : (splB 32 (ofL (a ++ 32 :: b))).filter (fun x => !sc_empty x) = [ofL a, ofL b] := by
  rw [splB_ofL, spl_app _ h1, spl_none h2]
  simp [emp_ofL ha, emp_ofL hb]
/-- A right token that is no text is what its tag says. -/
theorem tag_back {t : S40} {a b : Bool} (h : fineM t a b = true) (h1 : t.f0 ≠ 1) : tagM (ofL (inM t)) = some t ∧ (125 : UInt8) ∉ inM t := by
  unfold fineM at h
  rw [if_neg h1] at h
  obtain ⟨t0, t1, t2⟩ := t
  simp only at h h1
  by_cases c : t0 = 2 ∨ t0 = 3 ∨ t0 = 5
  · rw [if_pos c, Bool.and_eq_true] at h
    obtain ⟨he, hr⟩ := h
    obtain rfl := emp_eq he
    have hb := path_bytes hr
    have hn := path_ne hr
    have hp := path_pth hr
    have ho := path_own hr
    have h32 : (32 : UInt8) ∉ Lib.join (t2.map (·.data.toList)) [46] := fun e => (hb 32 e).1 rfl
    have h125 : (125 : UInt8) ∉ Lib.join (t2.map (·.data.toList)) [46] := fun e => (hb 125 e).2.1 rfl
    have hlen : 0 < t2.length := (rtM_facts hr).1
    rcases c with rfl | rfl | rfl
    · have e : inM ⟨2, (⟨#[]⟩ : ByteArray), t2⟩ = Lib.join (t2.map (·.data.toList)) [46] := by
        have := sc_head_2 (⟨#[]⟩ : ByteArray) t2
        unfold inM
        rw [this]
        rfl
      rw [e]
      refine ⟨?_, h125⟩
      unfold tagM
      rw [tag_one hn h32]
      simp only
      rw [ho, hp]
      rfl
    · have e : inM ⟨3, (⟨#[]⟩ : ByteArray), t2⟩ = [105, 102] ++ 32 :: Lib.join (t2.map (·.data.toList)) [46] := by
        have : (sc_head ⟨3, (⟨#[]⟩ : ByteArray), t2⟩).data.toList = [105, 102, 32] := sc_head_w (w := (⟨#[105, 102]⟩ : ByteArray)) rfl (by decide) hlen
        unfold inM
        rw [this]
        rfl
      rw [e]
      refine ⟨?_, fun x => ?_⟩
      · unfold tagM
        rw [tag_two (by simp) hn (by decide) h32]
        simp only
        rw [hp, if_pos (by left; rfl)]
        rfl
      · rcases List.mem_append.mp x with x | x
        · revert x; decide
        · rcases List.mem_cons.mp x with x | x
          · revert x; decide
          · exact h125 x
    · have e : inM ⟨5, (⟨#[]⟩ : ByteArray), t2⟩ = [101, 97, 99, 104] ++ 32 :: Lib.join (t2.map (·.data.toList)) [46] := by
        have : (sc_head ⟨5, (⟨#[]⟩ : ByteArray), t2⟩).data.toList = [101, 97, 99, 104, 32] := sc_head_w (w := (⟨#[101, 97, 99, 104]⟩ : ByteArray)) rfl (by decide) hlen
        unfold inM
        rw [this]
        rfl
      rw [e]
      refine ⟨?_, fun x => ?_⟩
      · unfold tagM
        rw [tag_two (by simp) hn (by decide) h32]
        simp only
        rw [hp, if_pos (by right; rfl)]
        rfl
      · rcases List.mem_append.mp x with x | x
        · revert x; decide
        · rcases List.mem_cons.mp x with x | x
          · revert x; decide
          · exact h125 x
  · rw [if_neg c] at h
    by_cases d : t0 = 4 ∨ t0 = 6
    · rw [if_pos d, Bool.and_eq_true, decide_eq_true_eq] at h
      obtain ⟨he, hl⟩ := h
      obtain rfl := emp_eq he
      obtain rfl : t2 = [] := List.eq_nil_of_length_eq_zero hl
      rcases d with rfl | rfl <;> (rw [inM_0]; exact ⟨rfl, by decide⟩)
    · rw [if_neg d] at h
      cases h
/-- What is within a tag, and what it is. -/
theorem tag_fine {s : ByteArray} {t : S40} (h : tagM s = some t) : t.f0 ≠ 1 ∧ (∀ a b, fineM t a b = true) ∧ (inM t).length ≤ s.size := by
  have hsum := words_sum s
  have hjoin : ∀ b : ByteArray, Lib.join ((splB 46 b).map (·.data.toList)) [46] = b.data.toList := by
    intro b
    have : (splB 46 b).map (·.data.toList) = spl 46 b.data.toList := by
      unfold splB
      rw [List.map_map]
      conv => rhs; rw [← List.map_id (spl 46 b.data.toList)]
      exact List.map_congr_left (fun x _ => ofL_toL x)
    rw [this, join_spl]
  have hpth : ∀ b : ByteArray, (pthM b).2 = 0 → rtM (splB 46 b) = true ∧ (pthM b).1 = splB 46 b := by
    intro b hb
    unfold pthM at hb ⊢
    by_cases c : rtM (splB 46 b) = true
    · rw [if_pos c]; exact ⟨c, rfl⟩
    · rw [if_neg c] at hb; cases hb
  unfold tagM at h
  split at h
  · rename_i a hw
    rw [hw] at hsum
    simp only [List.map_cons, List.map_nil, List.sum_cons, List.sum_nil] at hsum
    split at h
    · rename_i c
      cases h
      have hlen : (sc_words (ownM a)).data.toList.length ≤ a.size := by
        rw [size_toL]
        unfold ownM at c ⊢
        repeat' split at c
        all_goals first | (simp at c; done) | skip
        · rename_i e1 e2
          rw [if_neg e1, if_pos e2, e2]; decide
        · rename_i e1 e2 e3 e4
          rw [if_neg e1, if_neg e2, if_neg e3, if_pos e4, e4]; decide
      refine ⟨?_, fun x y => ?_, ?_⟩
      · rcases c with c | c <;> simp [c]
      · rcases c with c | c <;> rw [c] <;> rfl
      · rw [inM_0]
        exact Nat.le_trans hlen (by omega)
    · split at h
      · split at h
        · rename_i hp
          cases h
          obtain ⟨h1, h2⟩ := hpth a hp
          refine ⟨by simp, fun x y => ?_, ?_⟩
          · unfold fineM
            simp only
            rw [if_neg (by decide), if_pos (by decide), h2, h1]
            rfl
          · have hh := sc_head_2 (⟨#[]⟩ : ByteArray) (pthM a).1
            unfold inM
            rw [hh, h2, hjoin, List.nil_append, ← size_toL]
            omega
        · cases h
      · cases h
  · rename_i a b hw
    rw [hw] at hsum
    simp only [List.map_cons, List.map_nil, List.sum_cons, List.sum_nil] at hsum
    split at h
    · rename_i c
      split at h
      · rename_i hp
        cases h
        obtain ⟨h1, h2⟩ := hpth b hp
        have hlen : (sc_words (ownM a)).data.toList.length ≤ a.size := by
          rw [size_toL]
          unfold ownM at c ⊢
          repeat' split at c
          all_goals first | (simp at c; done) | skip
          · rename_i e1
            rw [if_pos e1, e1]; decide
          · rename_i e1 e2 e3
            rw [if_neg e1, if_neg e2, if_pos e3, e3]; decide
        refine ⟨?_, fun x y => ?_, ?_⟩
        · rcases c with c | c <;> simp [c]
        · unfold fineM
          simp only
          rw [if_neg (by rcases c with c | c <;> simp [c]), if_pos (by rcases c with c | c <;> simp [c]), h2, h1]
          rfl
        · have hh : (sc_head ⟨ownM a, (⟨#[]⟩ : ByteArray), (pthM b).1⟩).data.toList.length ≤ (sc_words (ownM a)).data.toList.length + 1 := by
            unfold sc_head
            split
            · simp
            · split
              · rw [toL_append, List.length_append]; simp
              · simp
          have e : inM ⟨ownM a, (⟨#[]⟩ : ByteArray), (pthM b).1⟩ = (sc_head ⟨ownM a, (⟨#[]⟩ : ByteArray), (pthM b).1⟩).data.toList ++ Lib.join ((pthM b).1.map (·.data.toList)) [46] := rfl
          rw [e, List.length_append, h2, hjoin, ← size_toL b]
          rw [h2] at hh
          omega
      · cases h
    · cases h
  · cases h
theorem sc_tag_len (t : S40) : (sc_tag t).data.toList.length = (inM t).length + 4 := by
  rw [sc_tag_in]
  simp
theorem sc_text_cons (t : S40) (l : List S40) : sc_text (t :: l) = (sc_tok t).data.toList ++ sc_text l := by
  unfold sc_text
  simp
theorem txt_eq {t : S40} (h0 : t.f0 = 1) (h2 : t.f2.length = 0) : txt t.f1.data.toList = t := by
  obtain ⟨a, b, c⟩ := t
  simp only at h0 h2
  subst h0
  obtain rfl : c = [] := List.eq_nil_of_length_eq_zero h2
  unfold txt
  rw [ofL_data]
theorem fine_text {t : S40} {a b : Bool} (h : fineM t a b = true) (h1 : t.f0 = 1) : t.f1.data.toList ≠ [] ∧ t.f2.length = 0 ∧ fnd 123 t.f1.data.toList = none ∧ b = false ∧ (a = true → t.f1.data.toList.getLast? ≠ some 123) := by
  unfold fineM at h
  rw [if_pos h1] at h
  simp only [Bool.and_eq_true, Bool.not_eq_true', decide_eq_true_eq, Option.isNone_iff_eq_none, Bool.and_eq_false_imp, decide_eq_false_iff_not] at h
  refine ⟨?_, h.2.1, h.2.2.1, h.2.2.2.1, h.2.2.2.2⟩
  intro e
  have := h.1
  rw [← ofL_data t.f1, e] at this
  cases this
theorem drop_app {α : Type} (x : List α) (a b : α) (r : List α) : (x ++ a :: b :: r).drop (x.length + 2) = r := by
  rw [List.drop_append, List.drop_eq_nil_of_le (by omega), List.nil_append, show x.length + 2 - x.length = 2 by omega]
  rfl
/-- One step: a text, or none, and a tag. -/
theorem tk_step {n : Nat} {pre w r : List UInt8} {out : List S40} {t : S40} (h1 : fnd 123 pre = none) (h2 : pre.getLast? ≠ some 123) (h3 : (125 : UInt8) ∉ w) (h4 : tagM (ofL w) = some t) :
    tkM (n + 1) (pre ++ 123 :: 123 :: (w ++ 125 :: 125 :: r)) out = tkM n r ((if pre = [] then out else out ++ [txt pre]) ++ [t]) := by
  have hf := fnd_skip (w ++ 125 :: 125 :: r) h1 h2
  have hd := drop_app pre 123 123 (w ++ 125 :: 125 :: r)
  rw [tkM, if_neg (by simp), hf]
  simp only
  rw [hd, fnd_at r h3]
  simp only
  rw [List.take_left, h4]
  simp only
  rw [drop_app, List.take_left]
  have e : (if pre.length = 0 then out else out ++ [txt pre]) = if pre = [] then out else out ++ [txt pre] := by
    cases pre <;> rfl
  rw [e]
theorem check_tail {t : S40} {l : List S40} (h : checkM (t :: l) = true) : checkM l = true := by
  cases l with
  | nil => rfl
  | cons u l => rw [checkM, Bool.and_eq_true] at h; exact h.2
theorem check_head {t : S40} {l : List S40} (h : checkM (t :: l) = true) : ∃ a b, fineM t a b = true ∧ (∀ u r, l = u :: r → a = true ∧ b = decide (u.f0 = 1)) := by
  cases l with
  | nil => exact ⟨false, false, h, by intro u r e; cases e⟩
  | cons u l =>
    rw [checkM, Bool.and_eq_true] at h
    exact ⟨true, _, h.1, by intro u' r e; cases e; exact ⟨rfl, rfl⟩⟩
theorem sc_tok_text {t : S40} (h : t.f0 = 1) : sc_tok t = t.f1 := by unfold sc_tok; rw [if_pos h]
theorem sc_tok_tag {t : S40} (h : t.f0 ≠ 1) (r : List UInt8) : (sc_tok t).data.toList ++ r = 123 :: 123 :: (inM t ++ 125 :: 125 :: r) := by
  unfold sc_tok
  rw [if_neg h, sc_tag_in]
  simp
/-- What is written is read. -/
theorem tk_text : ∀ (n : Nat) (l : List S40) (out : List S40), checkM l = true → l.length ≤ n → tkM (n + 1) (sc_text l) out = (out ++ l, 0)
  | n, [], out, _, _ => by
    rw [show sc_text [] = [] from rfl, tkM, if_pos rfl, List.append_nil]
  | n, t :: l, out, hc, hn => by
    obtain ⟨a, b, hf, hab⟩ := check_head hc
    have hl := check_tail hc
    rw [sc_text_cons]
    by_cases h1 : t.f0 = 1
    · obtain ⟨e1, e2, e3, e4, e5⟩ := fine_text hf h1
      rw [sc_tok_text h1]
      cases l with
      | nil =>
        rw [show sc_text [] = [] from rfl, List.append_nil, tkM, if_neg e1, e3]
        simp only
        rw [txt_eq h1 e2]
      | cons u l =>
        obtain ⟨ha, hb⟩ := hab u l rfl
        have hu : u.f0 ≠ 1 := by rw [e4] at hb; exact of_decide_eq_false hb.symm
        obtain ⟨c, d, hg, _⟩ := check_head hl
        obtain ⟨g1, g2⟩ := tag_back hg hu
        rw [sc_text_cons, sc_tok_tag hu, tk_step e3 (e5 ha) g2 g1, if_neg e1, txt_eq h1 e2]
        obtain ⟨m, rfl⟩ : ∃ m, n = m + 1 := ⟨n - 1, by simp only [List.length_cons] at hn; omega⟩
        rw [tk_text m l _ (check_tail hl) (by simp only [List.length_cons] at hn; omega)]
        simp
    · obtain ⟨g1, g2⟩ := tag_back hf h1
      have := tk_step (n := n) (pre := []) (w := inM t) (r := sc_text l) (out := out) (t := t) rfl (by simp) g2 g1
      rw [List.nil_append] at this
      rw [sc_tok_tag h1, this, if_pos rfl]
      obtain ⟨m, rfl⟩ : ∃ m, n = m + 1 := ⟨n - 1, by simp only [List.length_cons] at hn; omega⟩
      rw [tk_text m l _ hl (by simp only [List.length_cons] at hn; omega)]
      simp
theorem fine_pos {t : S40} {a b : Bool} (h : fineM t a b = true) : 1 ≤ (sc_tok t).data.toList.length := by
  by_cases h1 : t.f0 = 1
  · rw [sc_tok_text h1]
    exact List.length_pos_iff.mpr (fine_text h h1).1
  · unfold sc_tok
    rw [if_neg h1, sc_tag_len]
    omega
theorem text_len : ∀ {l : List S40}, checkM l = true → l.length ≤ (sc_text l).length
  | [], _ => Nat.zero_le _
  | t :: l, h => by
    obtain ⟨a, b, hf, _⟩ := check_head h
    have h1 := fine_pos hf
    have h2 := text_len (check_tail h)
    rw [sc_text_cons, List.length_append, List.length_cons]
    omega
theorem tokens_text {l : List S40} (h : checkM l = true) (hs : (sc_text l).length ≤ 1024) : tokensM (ofL (sc_text l)) = (l, 0) := by
  unfold tokensM
  rw [ofL_size, if_neg (by omega), ofL_toL]
  exact tk_text _ l [] h (text_len h)
theorem check_cons {t : S40} {l : List S40} (h1 : ∀ a b, fineM t a b = true) (h2 : checkM l = true) : checkM (t :: l) = true := by
  cases l with
  | nil => exact h1 _ _
  | cons u l => rw [checkM, h1, h2]; rfl
/-- What is read is written. -/
theorem tk_read : ∀ (n : Nat) (s : List UInt8) (out r : List S40), s.length < n → tkM n s out = (r, 0) → ∃ m, r = out ++ m ∧ checkM m = true ∧ (sc_text m).length ≤ s.length
  | n + 1, s, out, r, hn, h => by
    rw [tkM] at h
    by_cases a : s = []
    · rw [if_pos a] at h
      cases h
      exact ⟨[], by simp, rfl, by simp [sc_text]⟩
    · rw [if_neg a] at h
      cases hf : fnd 123 s with
      | none =>
        rw [hf] at h
        cases h
        refine ⟨[txt s], rfl, ?_, ?_⟩
        · show fineM (txt s) false false = true
          unfold fineM txt
          simp [emp_ofL a, ofL_toL, hf]
        · rw [sc_text_cons, sc_tok_text rfl]
          show ((ofL s).data.toList ++ _).length ≤ _
          rw [ofL_toL]
          simp [sc_text]
      | some i =>
        rw [hf] at h
        simp only at h
        obtain ⟨f1, f2, f3⟩ := fnd_take hf
        cases hg : fnd 125 (s.drop (i + 2)) with
        | none => rw [hg] at h; cases h
        | some j =>
          rw [hg] at h
          simp only at h
          cases ht : tagM (ofL ((s.drop (i + 2)).take j)) with
          | none => rw [ht] at h; cases h
          | some t =>
            rw [ht] at h
            simp only at h
            have hi := fnd_le hf
            have hj := fnd_le hg
            have hdl : (s.drop (i + 2)).length = s.length - (i + 2) := List.length_drop
            have hdl2 : ((s.drop (i + 2)).drop (j + 2)).length = (s.drop (i + 2)).length - (j + 2) := List.length_drop
            obtain ⟨m, rfl, hm, hl⟩ := tk_read n _ _ r (by omega) h
            obtain ⟨t1, t2, t3⟩ := tag_fine ht
            rw [ofL_size, List.length_take] at t3
            have hcm : checkM (t :: m) = true := check_cons t2 hm
            have htl : (sc_text (t :: m)).length ≤ j + 4 + (sc_text m).length := by
              rw [sc_text_cons, List.length_append]
              unfold sc_tok
              rw [if_neg t1, sc_tag_len]
              omega
            by_cases z : i = 0
            · rw [if_pos z]
              exact ⟨t :: m, by simp, hcm, by omega⟩
            · rw [if_neg z]
              refine ⟨txt (s.take i) :: t :: m, by simp, ?_, ?_⟩
              · rw [checkM, hcm, Bool.and_true]
                have hne : s.take i ≠ [] := by
                  intro e
                  have := congrArg List.length e
                  rw [List.length_take] at this
                  simp only [List.length_nil] at this
                  omega
                unfold fineM txt
                simp [emp_ofL hne, ofL_toL, f1, f2, t1]
              · rw [sc_text_cons, List.length_append, sc_tok_text rfl]
                show (ofL (s.take i)).data.toList.length + _ ≤ _
                rw [ofL_toL, List.length_take]
                omega
theorem tokens_read {s : ByteArray} {m : List S40} (h : tokensM s = (m, 0)) : checkM m = true ∧ (sc_text m).length ≤ s.size ∧ s.size ≤ 1024 := by
  unfold tokensM at h
  split at h
  · cases h
  · rename_i c
    obtain ⟨m', rfl, h1, h2⟩ := tk_read _ _ _ _ (by rw [size_toL]; omega) h
    exact ⟨h1, by rw [size_toL]; exact h2, by omega⟩
theorem rd_tok {l : List S40} {i : Nat} (h : i < l.length) : rd_T40 l (i : Int) = l[i] := by
  unfold rd_T40
  rw [Int.toNat_natCast, List.getD_eq_getElem?_getD, List.getElem?_eq_getElem h]; rfl
/-- A path's word, put together piece by piece. -/
def wordM (l : List ByteArray) : ByteArray := ofL (Lib.join (l.map (·.data.toList)) [46])
theorem wordM_take {l : List ByteArray} {i : Nat} (h : i < l.length) : wordM (l.take (i + 1)) = (if i = 0 then wordM (l.take i) ++ l[i] else (wordM (l.take i) ++ (⟨#[46]⟩ : ByteArray)) ++ l[i]) := by
  have hj : ∀ (x : List UInt8) (r : List (List UInt8)) (y : List UInt8), Lib.join (x :: r ++ [y]) [46] = Lib.join (x :: r) [46] ++ 46 :: y := by
    intro x r
    induction r generalizing x with
    | nil => intro y; rw [List.cons_append, List.nil_append, join_two, Lib.join_one, Lib.join_one]
    | cons z r ih =>
      intro y
      have := ih z y
      rw [List.cons_append] at this
      rw [List.cons_append, List.cons_append, join_two, this, join_two]
      simp
  rw [List.take_succ_eq_append_getElem h]
  by_cases z : i = 0
  · subst z
    rw [if_pos rfl, List.take_zero, List.nil_append]
    unfold wordM
    rw [List.map_cons, List.map_nil, Lib.join_one, ofL_data]
    apply ByteArray.ext
    apply Array.ext'
    show _ = (_ ++ _ : ByteArray).data.toList
    rw [toL_append]
    simp [ofL_toL, Lib.join]
  · rw [if_neg z]
    cases l with
    | nil => simp at h
    | cons a l =>
      obtain ⟨j, rfl⟩ : ∃ j, i = j + 1 := ⟨i - 1, by omega⟩
      unfold wordM
      rw [List.take_succ_cons, List.map_append, List.map_cons, List.map_cons, List.map_nil, hj]
      apply ByteArray.ext
      apply Array.ext'
      show (ofL _).data.toList = ((_ ++ _ : ByteArray) ++ _ : ByteArray).data.toList
      rw [toL_append, toL_append, ofL_toL, ofL_toL]
      simp
theorem wordM_size {l : List ByteArray} : (wordM l).size ≤ (l.map fun x => x.size + 1).sum := by
  unfold wordM
  rw [ofL_size]
  cases l with
  | nil => simp [Lib.join]
  | cons x l =>
    rw [List.map_cons, Lib.join_length]
    have h : ∀ l : List ByteArray, (l.map fun x => x.size + 1).sum = Lib.lens (l.map (·.data.toList)) + l.length := by
      intro l
      induction l with
      | nil => rfl
      | cons y l ih =>
        simp only [List.map_cons, List.sum_cons, ih, Lib.lens, List.length_cons, ← size_toL]
        omega
    rw [h, List.map_cons, List.length_map]
    simp only [List.length_cons, List.length_nil]
    omega
theorem wordM_mono {l : List ByteArray} (i : Nat) : ((l.take i).map fun x => x.size + 1).sum ≤ (l.map fun x => x.size + 1).sum := by
  conv => rhs; rw [← List.take_append_drop i l]
  rw [List.map_append, List.sum_append]
  omega
/-- What a tag's text is, word by word. -/
theorem tag_text (t : S40) (h1 : t.f0 ≠ 1) {a b : Bool} (hf : fineM t a b = true) :
    sc_tok t = if t.f0 = 3 then ((⟨#[123, 123]⟩ : ByteArray) ++ ((⟨#[105, 102, 32]⟩ : ByteArray) ++ wordM t.f2)) ++ (⟨#[125, 125]⟩ : ByteArray)
      else if t.f0 = 5 then ((⟨#[123, 123]⟩ : ByteArray) ++ ((⟨#[101, 97, 99, 104, 32]⟩ : ByteArray) ++ wordM t.f2)) ++ (⟨#[125, 125]⟩ : ByteArray)
      else if t.f0 = 4 then ((⟨#[123, 123]⟩ : ByteArray) ++ (⟨#[101, 108, 115, 101]⟩ : ByteArray)) ++ (⟨#[125, 125]⟩ : ByteArray)
      else if t.f0 = 6 then ((⟨#[123, 123]⟩ : ByteArray) ++ (⟨#[101, 110, 100]⟩ : ByteArray)) ++ (⟨#[125, 125]⟩ : ByteArray)
      else ((⟨#[123, 123]⟩ : ByteArray) ++ wordM t.f2) ++ (⟨#[125, 125]⟩ : ByteArray) := by
  have ext : ∀ x y : ByteArray, x.data.toList = y.data.toList → x = y := fun x y h => ByteArray.ext (Array.ext' h)
  unfold fineM at hf
  rw [if_neg h1] at hf
  obtain ⟨k, x, p⟩ := t
  simp only at hf h1 ⊢
  have hin : (sc_tok ⟨k, x, p⟩).data.toList = 123 :: 123 :: (inM ⟨k, x, p⟩ ++ [125, 125]) := by
    unfold sc_tok
    rw [if_neg h1, sc_tag_in]
  apply ext
  rw [hin]
  unfold inM wordM
  simp only
  by_cases c : k = 2 ∨ k = 3 ∨ k = 5
  · rw [if_pos c, Bool.and_eq_true] at hf
    have hlen : 0 < p.length := (rtM_facts hf.2).1
    rcases c with rfl | rfl | rfl
    · have := sc_head_2 x p
      rw [this, if_neg (by decide), if_neg (by decide), if_neg (by decide), if_neg (by decide), toL_append, toL_append, ofL_toL]
      simp
    · have : (sc_head ⟨3, x, p⟩).data.toList = [105, 102, 32] := sc_head_w (w := (⟨#[105, 102]⟩ : ByteArray)) rfl (by decide) hlen
      rw [this, if_pos rfl, toL_append, toL_append, toL_append, ofL_toL]
      simp
    · have : (sc_head ⟨5, x, p⟩).data.toList = [101, 97, 99, 104, 32] := sc_head_w (w := (⟨#[101, 97, 99, 104]⟩ : ByteArray)) rfl (by decide) hlen
      rw [this, if_neg (by decide), if_pos rfl, toL_append, toL_append, toL_append, ofL_toL]
      simp
  · rw [if_neg c] at hf
    by_cases d : k = 4 ∨ k = 6
    · rw [if_pos d, Bool.and_eq_true, decide_eq_true_eq] at hf
      obtain rfl : p = [] := List.eq_nil_of_length_eq_zero hf.2
      rcases d with rfl | rfl
      · rw [if_neg (by decide), if_neg (by decide), if_pos rfl, sc_head_0, toL_append, toL_append]; rfl
      · rw [if_neg (by decide), if_neg (by decide), if_neg (by decide), if_pos rfl, sc_head_0, toL_append, toL_append]; rfl
    · rw [if_neg d] at hf
      cases hf
theorem bA_assoc (a b c : ByteArray) : a ++ b ++ c = a ++ (b ++ c) := ByteArray.append_assoc
theorem check_all : ∀ {l : List S40}, checkM l = true → ∀ t ∈ l, ∃ a b, fineM t a b = true
  | [], _, t, ht => by cases ht
  | u :: l, h, t, ht => by
    rcases List.mem_cons.mp ht with rfl | ht
    · obtain ⟨a, b, hf, _⟩ := check_head h
      exact ⟨a, b, hf⟩
    · exact check_all (check_tail h) t ht
theorem le_sum_map {α : Type} (f : α → Nat) : ∀ {l : List α} {x : α}, x ∈ l → f x ≤ (l.map f).sum
  | y :: l, x, h => by
    rw [List.map_cons, List.sum_cons]
    rcases List.mem_cons.mp h with rfl | h
    · omega
    · have := le_sum_map f h
      omega
theorem len_sum_map {α : Type} (f : α → Nat) (h : ∀ x, 1 ≤ f x) : ∀ l : List α, l.length ≤ (l.map f).sum
  | [] => Nat.le_refl _
  | x :: l => by
    have := len_sum_map f h l
    have := h x
    rw [List.map_cons, List.sum_cons, List.length_cons]
    omega
theorem tok_size (t : S40) : (sc_tok t).data.toList.length ≤ 10 * ((1 + ((t.f1.size + 1) + ((t.f2.map (fun x => (x.size + 1))).sum + 1))) + 1) := by
  rw [← size_toL]
  by_cases h : t.f0 = 1
  · rw [sc_tok_text h]
    omega
  · unfold sc_tok
    rw [if_neg h, sc_tag_size]
    have h1 := sc_head_size t
    have h2 : (sc_join t.f2).size ≤ _ := wordM_size (l := t.f2)
    omega
theorem text_size : ∀ l : List S40, (sc_text l).length ≤ 10 * (l.map (fun x => ((1 + ((x.f1.size + 1) + ((x.f2.map (fun x => (x.size + 1))).sum + 1))) + 1))).sum
  | [] => Nat.zero_le _
  | t :: l => by
    have h1 := tok_size t
    have h2 := text_size l
    rw [sc_text_cons, List.length_append, List.map_cons, List.sum_cons]
    omega
theorem bulk_facts {l : List S40} (h : (l.map (fun x => ((1 + ((x.f1.size + 1) + ((x.f2.map (fun x => (x.size + 1))).sum + 1))) + 1))).sum ≤ 1048576) :
    l.length ≤ 1048576 ∧ (∀ t ∈ l, t.f1.size ≤ 1048576) ∧ (∀ t ∈ l, t.f2.length < 4611686018427387904 ∧ ∀ x ∈ t.f2, x.size < 4611686018427387904) ∧ (∀ t ∈ l, (t.f2.map fun x => x.size + 1).sum ≤ 1048576 ∧ t.f2.length ≤ 1048576) ∧ (∀ t ∈ l, t.f2.length < 4611686018427387904) ∧ (sc_text l).length ≤ 140737488355328 := by
  have hl := len_sum_map (fun x : S40 => ((1 + ((x.f1.size + 1) + ((x.f2.map (fun x => (x.size + 1))).sum + 1))) + 1)) (fun x => by omega) l
  have hm : ∀ t ∈ l, ((1 + ((t.f1.size + 1) + ((t.f2.map (fun x => (x.size + 1))).sum + 1))) + 1) ≤ 1048576 := fun t ht => Nat.le_trans (le_sum_map (fun x : S40 => ((1 + ((x.f1.size + 1) + ((x.f2.map (fun x => (x.size + 1))).sum + 1))) + 1)) ht) h
  have hn : ∀ t : S40, t.f2.length ≤ (t.f2.map (fun x => (x.size + 1))).sum := fun t => len_sum_map (fun x : ByteArray => x.size + 1) (fun x => by omega) t.f2
  have ht := text_size l
  refine ⟨by omega, fun t ht => by have := hm t ht; omega, fun t ht => ⟨by have := hm t ht; have := hn t; omega, fun x hx => ?_⟩, fun t ht => ⟨by have := hm t ht; omega, by have := hm t ht; have := hn t; omega⟩, fun t ht => by have := hm t ht; have := hn t; omega, by omega⟩
  have h1 := hm t ht
  have h2 := le_sum_map (fun x : ByteArray => x.size + 1) hx
  omega
theorem check_paths {l : List S40} (h : checkM l = true) : ∀ t ∈ l, t.f2.length < 4611686018427387904 := by
  intro t ht
  obtain ⟨a, b, hf⟩ := check_all h t ht
  unfold fineM at hf
  split at hf
  · simp only [Bool.and_eq_true, decide_eq_true_eq] at hf
    omega
  · split at hf
    · rw [Bool.and_eq_true] at hf
      have := (rtM_facts hf.2).2.1
      omega
    · split at hf
      · simp only [Bool.and_eq_true, decide_eq_true_eq] at hf
        omega
      · cases hf
theorem check_texts : ∀ {l : List S40}, checkM l = true → ∀ t ∈ l, t.f1.size ≤ (sc_text l).length
  | [], _, t, ht => by cases ht
  | u :: l, h, t, ht => by
    rw [sc_text_cons, List.length_append]
    rcases List.mem_cons.mp ht with rfl | ht
    · by_cases h1 : t.f0 = 1
      · rw [sc_tok_text h1, ← size_toL]; omega
      · obtain ⟨a, b, hf, _⟩ := check_head h
        unfold fineM at hf
        rw [if_neg h1] at hf
        have : sc_empty t.f1 = true := by
          split at hf
          · rw [Bool.and_eq_true] at hf; exact hf.1
          · split at hf
            · rw [Bool.and_eq_true] at hf; exact hf.1
            · cases hf
        unfold sc_empty at this
        rw [decide_eq_true_eq] at this
        omega
    · have := check_texts (check_tail h) t ht
      omega
theorem tokens_cases (s : ByteArray) : (tokensM s).2 = 0 ∨ (tokensM s).1 = [] := by
  have h : ∀ n (l : List UInt8) (out : List S40), (tkM n l out).2 = 0 ∨ (tkM n l out).1 = [] := by
    intro n
    induction n with
    | zero => intro l out; exact Or.inl rfl
    | succ n ih =>
      intro l out
      rw [tkM]
      split
      · exact Or.inl rfl
      · split
        · exact Or.inl rfl
        · split
          · exact Or.inr rfl
          · split
            · exact Or.inr rfl
            · exact ih _ _
  unfold tokensM
  split
  · exact Or.inr rfl
  · exact h _ _ _
theorem tokens_small (s : ByteArray) : (tokensM s).1.length < 4611686018427387904 ∧ ∀ t ∈ (tokensM s).1, t.f2.length < 4611686018427387904 := by
  rcases tokens_cases s with h | h
  · obtain ⟨h1, h2, h3⟩ := tokens_read (s := s) (m := (tokensM s).1) (by rw [← h])
    have := text_len h1
    exact ⟨by omega, check_paths h1⟩
  · rw [h]
    exact ⟨by simp, by intro t ht; cases ht⟩
theorem pth_small (s : ByteArray) : (pthM s).1.length < 4611686018427387904 := by
  unfold pthM
  split
  · rename_i h
    have := (rtM_facts h).2.1
    simp only
    omega
  · simp
end Go.Proofs.YtcblmfcgjemgkaaDoor.XS
