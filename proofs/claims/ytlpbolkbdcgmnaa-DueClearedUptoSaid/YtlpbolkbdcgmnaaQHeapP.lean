-- by a program of this session
import Derived.Laws.BitsLemmas
set_option linter.unusedVariables false
set_option linter.unusedSimpArgs false
/-! Heaps in a list, plain: any strict weak order. -/
namespace Go.Proofs.Ytlpbolkbdcgmnaa.Hp
variable {α : Type} (z : α) (lt : α → α → Bool)
/-- A strict weak order. -/
structure Swo : Prop where
  irr : ∀ a, lt a a = false
  tr : ∀ a b c, lt a b = true → lt b c = true → lt a c = true
  co : ∀ a b c, lt a b = true → lt a c = true ∨ lt c b = true
variable {lt}
theorem Swo.asym (S : Swo lt) {a b : α} (h : lt a b = true) : lt b a = false := by
  cases h2 : lt b a with
  | false => rfl
  | true => have := S.tr a b a h h2; rw [S.irr] at this; cases this
theorem Swo.le_tr (S : Swo lt) {a b c : α} (h1 : lt b a = false) (h2 : lt c b = false) : lt c a = false := by
  cases h : lt c a with
  | false => rfl
  | true =>
    rcases S.co c a b h with h | h
    · rw [h2] at h; cases h
    · rw [h1] at h; cases h
variable (lt)
def g (xs : List α) (i : Nat) : α := xs.getD i z
theorem g_eq (xs : List α) (i : Nat) (h : i < xs.length) : g z xs i = xs[i] := by
  unfold g
  rw [List.getD_eq_getElem?_getD, List.getElem?_eq_getElem h]
  rfl
theorem g_set (xs : List α) (i j : Nat) (v : α) (h : i < xs.length) : g z (xs.set i v) j = if i = j then v else g z xs j := by
  unfold g
  rw [List.getD_eq_getElem?_getD, List.getD_eq_getElem?_getD, List.getElem?_set]
  by_cases c : i = j
  · rw [if_pos c, if_pos c, if_pos h]; rfl
  · rw [if_neg c, if_neg c]
theorem g_take (xs : List α) (n i : Nat) (h : i < n) : g z (xs.take n) i = g z xs i := by
  unfold g
  rw [List.getD_eq_getElem?_getD, List.getD_eq_getElem?_getD, List.getElem?_take, if_pos h]
def swap (xs : List α) (i j : Nat) : List α := (xs.set i (g z xs j)).set j (g z xs i)
theorem swap_len (xs : List α) (i j : Nat) : (swap z xs i j).length = xs.length := by unfold swap; rw [List.length_set, List.length_set]
theorem swap_g (xs : List α) (i j k : Nat) (hi : i < xs.length) (hj : j < xs.length) : g z (swap z xs i j) k = if j = k then g z xs i else if i = k then g z xs j else g z xs k := by
  unfold swap
  rw [g_set _ _ _ _ _ (by rw [List.length_set]; exact hj), g_set _ _ _ _ _ hi]
theorem swap_perm (xs : List α) (i j : Nat) (hi : i < xs.length) (hj : j < xs.length) : (swap z xs i j).Perm xs := by
  unfold swap
  rw [g_eq z xs i hi, g_eq z xs j hj]
  exact List.set_set_perm hi hj
def up : Nat → List α → Nat → List α
  | 0, xs, _ => xs
  | m + 1, xs, i => if i = 0 then xs else if lt (g z xs i) (g z xs ((i - 1) / 2)) = true then up m (swap z xs i ((i - 1) / 2)) ((i - 1) / 2) else xs
def kid (xs : List α) (i : Nat) : Nat := if 2 * i + 2 < xs.length ∧ lt (g z xs (2 * i + 2)) (g z xs (2 * i + 1)) = true then 2 * i + 2 else 2 * i + 1
def down : Nat → List α → Nat → List α
  | 0, xs, _ => xs
  | m + 1, xs, i => if 2 * i + 1 ≥ xs.length then xs else if lt (g z xs (kid z lt xs i)) (g z xs i) = true then down m (swap z xs i (kid z lt xs i)) (kid z lt xs i) else xs
theorem up_both : ∀ (m : Nat) (xs : List α) (i : Nat), i < xs.length → (up z lt m xs i).length = xs.length ∧ (up z lt m xs i).Perm xs
  | 0, xs, _, _ => ⟨rfl, List.Perm.refl _⟩
  | m + 1, xs, i, h => by
    unfold up
    by_cases c : i = 0
    · rw [if_pos c]; exact ⟨rfl, List.Perm.refl _⟩
    · rw [if_neg c]
      by_cases d : lt (g z xs i) (g z xs ((i - 1) / 2)) = true
      · rw [if_pos d]
        obtain ⟨h1, h2⟩ := up_both m (swap z xs i ((i - 1) / 2)) ((i - 1) / 2) (by rw [swap_len]; omega)
        exact ⟨by rw [h1, swap_len], h2.trans (swap_perm z xs i _ h (by omega))⟩
      · rw [if_neg d]; exact ⟨rfl, List.Perm.refl _⟩
theorem kid_cases (xs : List α) (i : Nat) (h : 2 * i + 1 < xs.length) : kid z lt xs i < xs.length ∧ (kid z lt xs i = 2 * i + 1 ∨ kid z lt xs i = 2 * i + 2) := by
  unfold kid
  by_cases c : 2 * i + 2 < xs.length ∧ lt (g z xs (2 * i + 2)) (g z xs (2 * i + 1)) = true
  · rw [if_pos c]; exact ⟨c.1, .inr rfl⟩
  · rw [if_neg c]; exact ⟨h, .inl rfl⟩
theorem down_both : ∀ (m : Nat) (xs : List α) (i : Nat), i < xs.length → (down z lt m xs i).length = xs.length ∧ (down z lt m xs i).Perm xs
  | 0, xs, _, _ => ⟨rfl, List.Perm.refl _⟩
  | m + 1, xs, i, h => by
    unfold down
    by_cases c : 2 * i + 1 ≥ xs.length
    · rw [if_pos c]; exact ⟨rfl, List.Perm.refl _⟩
    · rw [if_neg c]
      obtain ⟨k1, _⟩ := kid_cases z lt xs i (by omega)
      by_cases d : lt (g z xs (kid z lt xs i)) (g z xs i) = true
      · rw [if_pos d]
        obtain ⟨h1, h2⟩ := down_both m (swap z xs i (kid z lt xs i)) (kid z lt xs i) (by rw [swap_len]; exact k1)
        exact ⟨by rw [h1, swap_len], h2.trans (swap_perm z xs i _ h k1)⟩
      · rw [if_neg d]; exact ⟨rfl, List.Perm.refl _⟩
def edge (xs : List α) (j : Nat) : Prop := lt (g z xs j) (g z xs ((j - 1) / 2)) = false
/-- Each timer whose parent stands from k on is not ahead of it. -/
def HeapFrom (k : Nat) (xs : List α) : Prop := ∀ j, 0 < j → j < xs.length → k ≤ (j - 1) / 2 → edge z lt xs j
variable {lt}
theorem kid_least (S : Swo lt) (xs : List α) (i j : Nat) (hj : j < xs.length) (h0 : 0 < j) (hp : (j - 1) / 2 = i) : lt (g z xs j) (g z xs (kid z lt xs i)) = false := by
  have hj2 : j = 2 * i + 1 ∨ j = 2 * i + 2 := by omega
  unfold kid
  by_cases c : 2 * i + 2 < xs.length ∧ lt (g z xs (2 * i + 2)) (g z xs (2 * i + 1)) = true
  · rw [if_pos c]
    rcases hj2 with rfl | rfl
    · exact S.asym c.2
    · exact S.irr _
  · rw [if_neg c]
    rcases hj2 with rfl | rfl
    · exact S.irr _
    · cases h : lt (g z xs (2 * i + 2)) (g z xs (2 * i + 1)) with
      | false => rfl
      | true => exact absurd ⟨hj, h⟩ c
theorem down_spec (S : Swo lt) : ∀ (m k : Nat) (xs : List α) (i : Nat), xs.length ≤ i + m → i < xs.length → k ≤ i →
    (∀ j, 0 < j → j < xs.length → k ≤ (j - 1) / 2 → (j - 1) / 2 ≠ i → edge z lt xs j) →
    (∀ j, 0 < j → j < xs.length → (j - 1) / 2 = i → 0 < i → k ≤ (i - 1) / 2 → lt (g z xs j) (g z xs ((i - 1) / 2)) = false) →
    HeapFrom z lt k (down z lt m xs i)
  | 0, k, xs, i, hm, hi, _, _, _ => by omega
  | m + 1, k, xs, i, hm, hi, hk, h1, h2 => by
    unfold down
    by_cases c : 2 * i + 1 ≥ xs.length
    · rw [if_pos c]
      exact fun j j0 j1 j2 => h1 j j0 j1 j2 (by omega)
    · rw [if_neg c]
      obtain ⟨k1, k2⟩ := kid_cases z lt xs i (by omega)
      have kl := fun j a b d => kid_least z S xs i j a b d
      generalize kid z lt xs i = t at k1 k2 kl
      have tp : (t - 1) / 2 = i := by omega
      by_cases d : lt (g z xs t) (g z xs i) = true
      · rw [if_pos d]
        have sg := fun q => swap_g z xs i t q hi k1
        have sl := swap_len z xs i t
        refine down_spec S m k (swap z xs i t) t (by omega) (by omega) (by omega) (fun j j0 j1 j2 j3 => ?_) (fun j j0 j1 j2 j3 j4 => ?_)
        · rw [sl] at j1
          unfold edge
          rw [sg, sg]
          by_cases e : (j - 1) / 2 = i
          · rw [if_neg (show ¬ t = (j - 1) / 2 by omega), if_pos e.symm]
            by_cases f : t = j
            · rw [if_pos f]; exact S.asym d
            · rw [if_neg f, if_neg (show ¬ i = j by omega)]; exact kl j j1 j0 e
          · rw [if_neg (show ¬ t = j by intro f; subst f; exact e tp), if_neg (show ¬ t = (j - 1) / 2 from fun f => j3 f.symm), if_neg (show ¬ i = (j - 1) / 2 from fun f => e f.symm)]
            by_cases f : i = j
            · subst f
              rw [if_pos rfl]
              exact h2 t (by omega) k1 tp j0 j2
            · rw [if_neg f]
              exact h1 j j0 j1 j2 e
        · rw [sl] at j1
          rw [sg, sg, tp, if_neg (show ¬ t = j by omega), if_neg (show ¬ i = j by omega), if_neg (show ¬ t = i by omega), if_pos rfl]
          have := h1 j j0 j1 (by omega) (by omega)
          unfold edge at this
          rw [j2] at this
          exact this
      · rw [if_neg d]
        intro j j0 j1 j2
        by_cases e : (j - 1) / 2 = i
        · unfold edge
          rw [e]
          have hd : lt (g z xs t) (g z xs i) = false := by simpa using d
          exact S.le_tr hd (kl j j1 j0 e)
        · exact h1 j j0 j1 j2 e
theorem down_id (m : Nat) (xs : List α) (i : Nat) (h : ∀ j, 0 < j → j < xs.length → (j - 1) / 2 = i → lt (g z xs j) (g z xs i) = false) : down z lt m xs i = xs := by
  cases m with
  | zero => rfl
  | succ m =>
    unfold down
    by_cases c : 2 * i + 1 ≥ xs.length
    · rw [if_pos c]
    · rw [if_neg c]
      obtain ⟨k1, k2⟩ := kid_cases z lt xs i (by omega)
      rw [if_neg]
      rw [h (kid z lt xs i) (by omega) k1 (by omega)]
      decide
theorem up_spec (S : Swo lt) : ∀ (m : Nat) (xs : List α) (i : Nat), i ≤ m → i < xs.length →
    (∀ j, 0 < j → j < xs.length → j ≠ i → edge z lt xs j) →
    (∀ j, 0 < j → j < xs.length → (j - 1) / 2 = i → 0 < i → lt (g z xs j) (g z xs ((i - 1) / 2)) = false) →
    HeapFrom z lt 0 (up z lt m xs i)
  | 0, xs, i, hm, hi, h1, _ => by
    obtain rfl : i = 0 := by omega
    exact fun j j0 j1 _ => h1 j j0 j1 (by omega)
  | m + 1, xs, i, hm, hi, h1, h2 => by
    unfold up
    by_cases c : i = 0
    · rw [if_pos c]
      exact fun j j0 j1 _ => h1 j j0 j1 (by omega)
    · rw [if_neg c]
      obtain ⟨p, hp⟩ : ∃ p, p = (i - 1) / 2 := ⟨_, rfl⟩
      rw [← hp]
      have hpi : p < i := by omega
      by_cases d : lt (g z xs i) (g z xs p) = true
      · rw [if_pos d]
        have sg := fun q => swap_g z xs i p q hi (by omega)
        have sl := swap_len z xs i p
        have sib : ∀ j, 0 < j → j < xs.length → (j - 1) / 2 = p → lt (g z xs j) (g z xs p) = false ∨ j = i := fun j j0 j1 j2 => by
          by_cases e : j = i
          · exact .inr e
          · left
            have := h1 j j0 j1 e
            unfold edge at this
            rw [j2] at this
            exact this
        refine up_spec S m (swap z xs i p) p (by omega) (by omega) (fun j j0 j1 j2 => ?_) (fun j j0 j1 j2 j3 => ?_)
        · rw [sl] at j1
          unfold edge
          rw [sg, sg, if_neg (show ¬ p = j from fun f => j2 f.symm)]
          by_cases e : i = j
          · subst e
            rw [if_pos rfl, ← hp, if_pos rfl]
            exact S.asym d
          · rw [if_neg e]
            by_cases f : p = (j - 1) / 2
            · rw [if_pos f]
              rcases sib j j0 j1 f.symm with h | h
              · exact S.le_tr (S.asym d) h
              · exact absurd h.symm e
            · rw [if_neg f]
              by_cases q : i = (j - 1) / 2
              · rw [if_pos q]
                have := h2 j j0 j1 q.symm (by omega)
                rw [← hp] at this
                exact this
              · rw [if_neg q]
                exact h1 j j0 j1 (fun f => e f.symm)
        · rw [sl] at j1
          have hpp : lt (g z xs p) (g z xs ((p - 1) / 2)) = false := h1 p j3 (by omega) (by omega)
          rw [sg, sg, if_neg (show ¬ p = j by omega), if_neg (show ¬ p = (p - 1) / 2 by omega), if_neg (show ¬ i = (p - 1) / 2 by omega)]
          by_cases e : i = j
          · rw [if_pos e]; exact hpp
          · rw [if_neg e]
            rcases sib j j0 j1 j2 with h | h
            · exact S.le_tr hpp h
            · exact absurd h.symm e
      · rw [if_neg d]
        intro j j0 j1 _
        by_cases e : j = i
        · subst e
          unfold edge
          rw [← hp]
          simpa using d
        · exact h1 j j0 j1 e
variable (lt)
def heapify : Nat → List α → List α
  | 0, xs => xs
  | i + 1, xs => heapify i (down z lt xs.length xs i)
variable {lt}
theorem heapify_both : ∀ (k : Nat) (xs : List α), k ≤ xs.length → (heapify z lt k xs).length = xs.length ∧ (heapify z lt k xs).Perm xs
  | 0, xs, _ => ⟨rfl, List.Perm.refl _⟩
  | k + 1, xs, h => by
    obtain ⟨a, b⟩ := down_both z lt xs.length xs k (by omega)
    obtain ⟨c, d⟩ := heapify_both k (down z lt xs.length xs k) (by omega)
    exact ⟨by rw [heapify, c, a], d.trans b⟩
theorem heapify_spec (S : Swo lt) : ∀ (k : Nat) (xs : List α), k ≤ xs.length → HeapFrom z lt k xs → HeapFrom z lt 0 (heapify z lt k xs)
  | 0, xs, _, h => h
  | k + 1, xs, h, hh => by
    obtain ⟨a, b⟩ := down_both z lt xs.length xs k (by omega)
    refine heapify_spec S k (down z lt xs.length xs k) (by omega) (down_spec z S xs.length k xs k (by omega) (by omega) (by omega) (fun j j0 j1 j2 j3 => hh j j0 j1 (by omega)) (fun j j0 j1 j2 j3 j4 => by omega))
theorem make_spec (S : Swo lt) (xs : List α) : HeapFrom z lt 0 (heapify z lt (xs.length / 2) xs) :=
  heapify_spec z S _ xs (by omega) (fun j j0 j1 j2 => by omega)
/-- The first one is ahead of all. -/
theorem root (S : Swo lt) (xs : List α) (h : HeapFrom z lt 0 xs) : ∀ j, j < xs.length → lt (g z xs j) (g z xs 0) = false := by
  intro j
  induction j using Nat.strongRecOn with
  | _ j ih =>
    intro hj
    by_cases c : j = 0
    · rw [c]; exact S.irr _
    · exact S.le_tr (ih ((j - 1) / 2) (by omega) (by omega)) (h j (by omega) hj (by omega))
theorem push_spec (S : Swo lt) (xs : List α) (t : α) (h : HeapFrom z lt 0 xs) : HeapFrom z lt 0 (up z lt xs.length (xs ++ [t]) xs.length) := by
  have ga : ∀ j, j < xs.length → g z (xs ++ [t]) j = g z xs j := fun j hj => by
    unfold g
    rw [List.getD_eq_getElem?_getD, List.getD_eq_getElem?_getD, List.getElem?_append_left hj]
  refine up_spec z S _ _ _ (Nat.le_refl _) (by simp) (fun j j0 j1 j2 => ?_) (fun j j0 j1 j2 _ => ?_)
  · rw [List.length_append, List.length_singleton] at j1
    have := h j j0 (by omega) (by omega)
    unfold edge at this ⊢
    rw [ga j (by omega), ga _ (by omega)]
    exact this
  · rw [List.length_append, List.length_singleton] at j1
    omega
variable (lt)
/-- What is left where the one at i is taken out: the last one takes its place. -/
def cutAt (xs : List α) (i : Nat) : List α := (xs.set i (g z xs (xs.length - 1))).take (xs.length - 1)
def take_ (xs : List α) (i : Nat) : List α :=
  if i < xs.length - 1 then up z lt i (down z lt (xs.length - 1) (cutAt z xs i) i) i else cutAt z xs i
variable {lt}
theorem cut_len (xs : List α) (i : Nat) : (cutAt z xs i).length = xs.length - 1 := by
  unfold cutAt
  rw [List.length_take, List.length_set]
  omega
theorem cut_perm (xs : List α) (i : Nat) (h : i < xs.length) : xs.Perm (g z xs i :: cutAt z xs i) := by
  have hn : xs ≠ [] := fun e => by rw [e] at h; simp at h
  have e1 : xs = xs.dropLast ++ [g z xs (xs.length - 1)] := by
    rw [g_eq z xs _ (by omega), ← List.getLast_eq_getElem hn, List.dropLast_concat_getLast hn]
  unfold cutAt
  rw [List.take_set, ← List.dropLast_eq_take]
  by_cases c : i < xs.length - 1
  · have hl : i < xs.dropLast.length := by rw [List.length_dropLast]; exact c
    have hg : g z xs i = xs.dropLast[i] := by rw [g_eq z xs i h, List.getElem_dropLast]
    have h1 : xs.Perm (g z xs (xs.length - 1) :: xs.dropLast) := by
      conv => lhs; rw [e1]
      exact List.perm_append_comm.trans (List.Perm.refl _)
    refine h1.trans ?_
    rw [hg]
    generalize g z xs (xs.length - 1) = v
    generalize xs.dropLast = ys at hl
    have e2 : ys = ys.take i ++ ys[i] :: ys.drop (i + 1) := by rw [← List.drop_eq_getElem_cons hl, List.take_append_drop]
    have h2 : ys.Perm (ys[i] :: (ys.take i ++ ys.drop (i + 1))) := by
      conv => lhs; rw [e2]
      exact List.perm_middle
    have h3 : (ys.set i v).Perm (v :: (ys.take i ++ ys.drop (i + 1))) := by
      rw [List.set_eq_take_append_cons_drop, if_pos hl]
      exact List.perm_middle
    exact ((h2.cons v).trans (List.Perm.swap _ _ _)).trans (h3.symm.cons _)
  · obtain rfl : i = xs.length - 1 := by omega
    have h4 : (xs.dropLast.set (xs.length - 1) (g z xs (xs.length - 1))) = xs.dropLast := List.set_eq_of_length_le (by rw [List.length_dropLast]; omega)
    rw [h4]
    conv => lhs; rw [e1]
    exact List.perm_append_comm.trans (List.Perm.refl _)
theorem take_perm (xs : List α) (i : Nat) (h : i < xs.length) : xs.Perm (g z xs i :: take_ z lt xs i) ∧ (take_ z lt xs i).length = xs.length - 1 := by
  unfold take_
  have hc := cut_perm z xs i h
  have hl := cut_len z xs i
  by_cases c : i < xs.length - 1
  · rw [if_pos c]
    obtain ⟨a, b⟩ := down_both z lt (xs.length - 1) (cutAt z xs i) i (by omega)
    obtain ⟨d, e⟩ := up_both z lt i (down z lt (xs.length - 1) (cutAt z xs i) i) i (by omega)
    exact ⟨hc.trans ((e.trans b).symm.cons _), by rw [d, a, hl]⟩
  · rw [if_neg c]; exact ⟨hc, hl⟩
theorem take_spec (S : Swo lt) (xs : List α) (i : Nat) (h : i < xs.length) (hh : HeapFrom z lt 0 xs) : HeapFrom z lt 0 (take_ z lt xs i) := by
  unfold take_
  have hl := cut_len z xs i
  have hg : ∀ j, j < xs.length - 1 → g z (cutAt z xs i) j = if i = j then g z xs (xs.length - 1) else g z xs j := fun j hj => by
    unfold cutAt
    rw [g_take _ _ _ _ hj, g_set _ _ _ _ _ h]
  by_cases c : i < xs.length - 1
  · rw [if_pos c]
    generalize hv : g z xs (xs.length - 1) = v at hg
    generalize hy : cutAt z xs i = ys at hl hg
    have he : ∀ j, 0 < j → j < ys.length → (j - 1) / 2 ≠ i → j ≠ i → edge z lt ys j := fun j j0 j1 j2 j3 => by
      unfold edge
      rw [hg j (by omega), hg _ (by omega), if_neg (show ¬ i = j from fun f => j3 f.symm), if_neg (show ¬ i = (j - 1) / 2 from fun f => j2 f.symm)]
      exact hh j j0 (by omega) (by omega)
    have hgp : ∀ j, 0 < j → j < ys.length → (j - 1) / 2 = i → 0 < i → lt (g z ys j) (g z ys ((i - 1) / 2)) = false := fun j j0 j1 j2 j3 => by
      rw [hg j (by omega), hg _ (by omega), if_neg (show ¬ i = j by omega), if_neg (show ¬ i = (i - 1) / 2 by omega)]
      have a := hh j j0 (by omega) (by omega)
      unfold edge at a
      rw [j2] at a
      exact S.le_tr (hh i j3 (by omega) (by omega)) a
    by_cases d : 0 < i ∧ lt (g z ys i) (g z ys ((i - 1) / 2)) = true
    · have hd := down_id z (lt := lt) (xs.length - 1) ys i (fun j j0 j1 j2 => by
        have a := hgp j j0 j1 j2 d.1
        cases h5 : lt (g z ys j) (g z ys i) with
        | false => rfl
        | true => have := S.tr _ _ _ h5 d.2; rw [a] at this; cases this)
      rw [hd]
      refine up_spec z S i ys i (Nat.le_refl _) (by omega) (fun j j0 j1 j2 => ?_) hgp
      by_cases e : (j - 1) / 2 = i
      · have a := hgp j j0 j1 e d.1
        unfold edge
        rw [e]
        cases h5 : lt (g z ys j) (g z ys i) with
        | false => rfl
        | true => have := S.tr _ _ _ h5 d.2; rw [a] at this; cases this
      · exact he j j0 j1 e j2
    · have hei : 0 < i → edge z lt ys i := fun h0 => by
        unfold edge
        cases h5 : lt (g z ys i) (g z ys ((i - 1) / 2)) with
        | false => rfl
        | true => exact absurd ⟨h0, h5⟩ d
      have hdn := down_spec z S (xs.length - 1) 0 ys i (by omega) (by omega) (by omega) (fun j j0 j1 _ j3 => by
        by_cases e : j = i
        · subst e; exact hei j0
        · exact he j j0 j1 j3 e) (fun j j0 j1 j2 j3 _ => hgp j j0 j1 j2 j3)
      obtain ⟨a, _⟩ := down_both z lt (xs.length - 1) ys i (by omega)
      refine up_spec z S i _ i (Nat.le_refl _) (by omega) (fun j j0 j1 _ => hdn j j0 j1 (by omega)) (fun j j0 j1 j2 j3 => ?_)
      have b := hdn j j0 j1 (by omega)
      unfold edge at b
      rw [j2] at b
      exact S.le_tr (hdn i j3 (by omega) (by omega)) b
  · rw [if_neg c]
    intro j j0 j1 _
    have := hh j j0 (by omega) (by omega)
    unfold edge at this ⊢
    rw [hg j (by omega), hg _ (by omega), if_neg (show ¬ i = j by omega), if_neg (show ¬ i = (j - 1) / 2 by omega)]
    exact this
end Go.Proofs.Ytlpbolkbdcgmnaa.Hp
