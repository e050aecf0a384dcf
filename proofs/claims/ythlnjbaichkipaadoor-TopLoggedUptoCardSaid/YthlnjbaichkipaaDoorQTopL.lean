-- by a program of this session
import Derived.Test.YthlnjbaichkipaaDoorQTrlP
import Derived.Test.YthlnjbaichkipaaDoorQTrlD
import Derived.Test.YthlnjbaichkipaaDoorQTrlB
set_option linter.unusedVariables false
set_option linter.unusedSimpArgs false
/-! TopLogged's plain theory: torn records, what a crash leaves, writes that all go through, what is read (QTrlPX, QTrlDX, QTopA, QTopB, QTopC put together: the bound on a claim's files). -/
namespace Go.Proofs.YthlnjbaichkipaaDoor.Trl
open Go.Proofs.YthlnjbaichkipaaDoor.Sum Go.Proofs.YthlnjbaichkipaaDoor.Wire
theorem recF_zero (acc b : Bl) (r : List Bl) (h : b.getD 63 0 = 0) : recF acc (b :: r) = none := by
  rw [recF, h, if_neg (by decide), if_neg (by decide)]
/-- Torn blocks: the first bytes of each, zeros behind. -/
def tornB (b : Bl) (k : Nat) : Bl := b.take k ++ zs (64 - k)
theorem tornB_full (b : Bl) (h : b.length = 64) (k : Nat) (hk : 64 ≤ k) : tornB b k = b := by
  unfold tornB
  rw [List.take_of_length_le (by omega), show 64 - k = 0 by omega]
  simp [zs]
theorem tornB_part (b : Bl) (h : b.length = 64) (k : Nat) (hk : k < 64) : (tornB b k).getD 63 0 = 0 := by
  unfold tornB
  rw [List.getD_eq_getElem?_getD, List.getElem?_append_right (by rw [List.length_take]; omega), List.length_take, Nat.min_eq_left (by omega)]
  unfold zs
  rw [List.getElem?_replicate]
  split <;> rfl
/-- Torn blocks of a frame: all whole, or no record. -/
theorem recF_torn : ∀ (n : Nat) (f acc : Bl) (T X : List Bl), f.length ≤ n → T.length ≤ (cutF f).length → (∀ j (hj : j < T.length), ∃ k, T[j] = tornB ((cutF f).getD j []) k) → (T.length < (cutF f).length → ∃ b r, X = b :: r ∧ b.getD 63 0 = 0) → T = cutF f ∨ recF acc (T ++ X) = none
  | n, f, acc, [], X, hn, hT, ht, hX => by
    right
    have h0 : 0 < (cutF f).length := by
      by_cases c : 63 < f.length
      · rw [cutF_long c]; simp
      · rw [cutF_last c]; simp
    obtain ⟨b, r, rfl, hb⟩ := hX h0
    exact recF_zero _ _ _ hb
  | n, f, acc, t :: T, X, hn, hT, ht, hX => by
    obtain ⟨k, hk⟩ := ht 0 (by simp)
    simp only [List.getElem_cons_zero] at hk
    have hsz := cutF_size n f hn
    by_cases c : 63 < f.length
    · rw [cutF_long c] at hk hT hsz ⊢
      have h64 : (f.take 63 ++ [(1 : UInt8)]).length = 64 := hsz _ (List.mem_cons_self ..)
      simp only [List.getD_cons_zero] at hk
      by_cases hf : k < 64
      · right
        rw [List.cons_append, hk]
        exact recF_zero _ _ _ (tornB_part _ h64 k hf)
      · rw [tornB_full _ h64 k (by omega)] at hk
        subst hk
        have hd : (f.drop 63).length = f.length - 63 := List.length_drop
        obtain ⟨n', rfl⟩ : ∃ n', n = n' + 1 := ⟨n - 1, by omega⟩
        have hg : (f.take 63 ++ [(1 : UInt8)]).getD 63 0 = 1 := by
          rw [List.getD_eq_getElem?_getD, List.getElem?_append_right (by rw [List.length_take]; omega), List.length_take, Nat.min_eq_left (by omega)]
          rfl
        rcases recF_torn n' (f.drop 63) (acc ++ (f.take 63 ++ [(1 : UInt8)]).take 63) T X (by omega) (by simpa using hT) (fun j hj => by
          obtain ⟨k, hk⟩ := ht (j + 1) (by simp; omega)
          refine ⟨k, ?_⟩
          rw [cutF_long c] at hk
          simpa using hk) (fun h => hX (by rw [cutF_long c]; simp; omega)) with h | h
        · left; rw [h]
        · right
          rw [List.cons_append, recF, if_pos hg, h]
          rfl
    · rw [cutF_last c] at hk hT hsz ⊢
      have h64 : (f ++ zs (63 - f.length) ++ [(2 : UInt8)]).length = 64 := hsz _ (List.mem_cons_self ..)
      simp only [List.getD_cons_zero] at hk
      have hT0 : T = [] := by
        simp only [List.length_cons, List.length_nil] at hT
        exact List.eq_nil_of_length_eq_zero (by omega)
      subst hT0
      by_cases hf : k < 64
      · right
        rw [List.cons_append, hk]
        exact recF_zero _ _ _ (tornB_part _ h64 k hf)
      · rw [tornB_full _ h64 k (by omega)] at hk
        left
        rw [hk]
theorem recsF_none {n : Nat} {l : List Bl} (h : recF [] l = none) : recsF n l = ([], 0) := by
  cases n with
  | zero => rfl
  | succ n => rw [recsF, h]
end Go.Proofs.YthlnjbaichkipaaDoor.Trl
namespace Go.Proofs.YthlnjbaichkipaaDoor.XR
open Go.RowKit Go.Proofs.YthlnjbaichkipaaDoorW.PrintWords Go.Proofs.YthlnjbaichkipaaDoorW.PrintLast Go.Proofs.YthlnjbaichkipaaDoorW.PrintMore
theorem dv_rdw (l : List S60) (i : Nat) (h : i < l.length) : rd_T60 l (i : Int) = l[i] := by
  unfold rd_T60
  rw [Int.toNat_natCast, List.getD_eq_getElem?_getD, List.getElem?_eq_getElem h]; rfl
theorem dv_rdb (l : List ByteArray) (i : Nat) (h : i < l.length) : rdOf ByteArray.empty l (i : Int) = l[i] := by
  unfold rdOf
  rw [Int.toNat_natCast, List.getD_eq_getElem?_getD, List.getElem?_eq_getElem h]; rfl
theorem dok_not {D : Dv} (h : ¬ DOk D) : dv_check D = 2 := by
  unfold dv_check
  split
  · rename_i h2
    exact absurd ((dok_iff D).1 (by unfold dv_check; rw [if_pos h2])) h
  · rfl
theorem zero_ok : DOk dv_zero := ⟨by simp [dv_zero], by simp [dv_zero], by simp [dv_zero], by simp [dv_zero], by simp [dv_zero]⟩
theorem dev_ok (D : Dv) : DOk (dv_dev D) := by
  unfold dv_dev
  split
  · rename_i h; exact (dok_iff D).1 h
  · exact zero_ok
theorem dev_f {D : Dv} (h : D.f ≤ 9223372036854775807) : (dv_dev D).f ≤ 9223372036854775807 := by
  unfold dv_dev
  split
  · exact h
  · simp [dv_zero]
theorem DOk.dev {D : Dv} (h : DOk D) : dv_dev D = D := if_pos ((dok_iff D).2 h)
theorem apply_size {ws : List S60} {b : List ByteArray} (hw : ∀ x ∈ ws, x.f1.size = 64) (hb : ∀ s ∈ b, s.size = 64) : ∀ s ∈ dv_apply ws b, s.size = 64 := by
  unfold dv_apply
  induction ws generalizing b with
  | nil => exact hb
  | cons x ws ih =>
    rw [List.foldl_cons]
    refine ih (fun y hy => hw y (List.mem_cons_of_mem _ hy)) (fun s hs => ?_)
    rcases List.mem_or_eq_of_mem_set hs with h | h
    · exact hb s h
    · rw [h]; exact hw x (List.mem_cons_self ..)
/-- The blocks behind a sync. -/
theorem apply_get (n : Nat) : ∀ (ws : List S60) (b : List ByteArray), (∀ x ∈ ws, 0 ≤ x.f0 ∧ x.f0 < (b.length : Int)) → n < b.length → (dv_apply ws b).getD n ByteArray.empty = hasF (n : Int) (b.getD n ByteArray.empty) ws
  | [], b, _, _ => rfl
  | x :: ws, b, hw, hn => by
    have hx := hw x (List.mem_cons_self ..)
    have ih := apply_get n ws (b.set x.f0.toNat x.f1) (fun y hy => by rw [List.length_set]; exact hw y (List.mem_cons_of_mem _ hy)) (by rw [List.length_set]; exact hn)
    have e : dv_apply (x :: ws) b = dv_apply ws (b.set x.f0.toNat x.f1) := rfl
    have e2 : ∀ s, hasF (n : Int) s (x :: ws) = hasF (n : Int) (if x.f0 = (n : Int) then x.f1 else s) ws := fun s => rfl
    rw [e, ih, e2]
    congr 1
    by_cases c : x.f0 = (n : Int)
    · rw [if_pos c, c, Int.toNat_natCast, List.getD_eq_getElem?_getD, List.getElem?_set_self (by omega)]
      rfl
    · rw [if_neg c, List.getD_eq_getElem?_getD, List.getElem?_set_ne (by omega), ← List.getD_eq_getElem?_getD]
theorem sync_ok {D : Dv} (h : DOk D) : DOk (dv_sync D).1 := by
  unfold dv_sync
  have hk := asks_ok h
  split
  · exact ⟨by simp only [dv_apply_len]; exact hk.b, by simp, hk.f, apply_size (fun x hx => (hk.x x hx).2.2) hk.s, by simp⟩
  · exact hk
theorem Sync_ok (D : Dv) : DOk (dv_Sync D).1 := by
  unfold dv_Sync
  split
  · rename_i h; exact sync_ok ((open_iff D).1 h).1
  · exact dev_ok D
theorem sync_f {D : Dv} (h : -1 ≤ D.f) : (dv_sync D).1.f ≤ max D.f 0 := by
  unfold dv_sync
  have := (asks_f h).2
  split <;> exact this
theorem Sync_f {D : Dv} (hf : D.f ≤ 9223372036854775807) : (dv_Sync D).1.f ≤ 9223372036854775807 := by
  unfold dv_Sync
  split
  · rename_i h
    have := sync_f ((open_iff D).1 h).1.f
    omega
  · exact dev_f hf
/-- Where a sync goes through. -/
theorem Sync_yes {D : Dv} (h : (dv_Sync D).2 = 0) : DOk D ∧ D.d = false ∧ (dv_Sync D).1.b = dv_apply D.w D.b ∧ (dv_Sync D).1.w = [] ∧ (dv_Sync D).1.d = false := by
  unfold dv_Sync at h ⊢
  split at h
  · rename_i h0
    obtain ⟨hk, hd⟩ := (open_iff D).1 h0
    rw [if_pos h0]
    unfold dv_sync at h ⊢
    obtain ⟨e1, e2⟩ := asks_eq D
    split at h
    · rename_i h1
      rw [if_pos h1]
      refine ⟨hk, hd, by simp only [e1, e2], rfl, ?_⟩
      rcases asks_two D with ⟨_, h2⟩ | h2
      · simp only [h2, hd]
      · omega
    · rename_i h1; exact absurd h h1
  · rename_i h0; exact absurd h h0
theorem Sync_two {D : Dv} (hk : DOk D) (hd : D.d = false) : (dv_Sync D).2 = 0 ∨ (dv_Sync D).2 = 9 := by
  unfold dv_Sync
  rw [if_pos ((open_iff D).2 ⟨hk, hd⟩)]
  unfold dv_sync
  rcases asks_two D with ⟨h, _⟩ | h
  · rw [if_pos h]; exact .inl rfl
  · rw [if_neg (by omega)]; exact .inr h
/-- Behind a crash. -/
theorem cr_go_len (keep : List Int) : ∀ (ws : List S60) (i : Nat) (b : List ByteArray), (cr_go keep i ws b).length = b.length
  | [], _, _ => rfl
  | x :: ws, i, b => by rw [cr_go, cr_go_len keep ws, List.length_set]
theorem cr_go_size (keep : List Int) : ∀ (ws : List S60) (i : Nat) (b : List ByteArray), (∀ x ∈ ws, 0 ≤ x.f0 ∧ x.f0 < (b.length : Int) ∧ x.f1.size = 64) → (∀ s ∈ b, s.size = 64) → ∀ s ∈ cr_go keep i ws b, s.size = 64
  | [], _, _, _, hb => hb
  | x :: ws, i, b, hw, hb => by
    rw [cr_go]
    have hx := hw x (List.mem_cons_self ..)
    refine cr_go_size keep ws (i + 1) _ (fun y hy => by rw [List.length_set]; exact hw y (List.mem_cons_of_mem _ hy)) (fun s hs => ?_)
    rcases List.mem_or_eq_of_mem_set hs with h | h
    · exact hb s h
    · rw [h]
      refine cr_mix_size hx.2.2 (hb _ ?_) (cr_n_le keep i)
      rw [List.getD_eq_getElem?_getD, List.getElem?_eq_getElem (by omega)]
      exact List.getElem_mem _
theorem Crash_eq {D : Dv} (h : DOk D) (keep : List Int) : dv_Crash D keep = (⟨cr_go keep 0 D.w D.b, [], -1, false⟩, 0) := if_pos ((dok_iff D).2 h)
theorem Crash_ok {D : Dv} (h : DOk D) (keep : List Int) : DOk ⟨cr_go keep 0 D.w D.b, [], -1, false⟩ :=
  ⟨by simp only [cr_go_len]; exact h.b, by simp, by simp, cr_go_size keep D.w 0 D.b h.x h.s, by simp⟩
theorem cr_go_other (keep : List Int) (n : Nat) : ∀ (ws : List S60) (i : Nat) (b : List ByteArray), (∀ x ∈ ws, x.f0.toNat ≠ n) → (cr_go keep i ws b).getD n ByteArray.empty = b.getD n ByteArray.empty
  | [], _, _, _ => rfl
  | x :: ws, i, b, hw => by
    rw [cr_go, cr_go_other keep n ws (i + 1) _ (fun y hy => hw y (List.mem_cons_of_mem _ hy)), List.getD_eq_getElem?_getD, List.getElem?_set_ne (hw x (List.mem_cons_self ..)), ← List.getD_eq_getElem?_getD]
theorem has_nil {D : Dv} (h : D.w = []) (a : Int) : dv_has D a = D.b.getD a.toNat ByteArray.empty := by rw [dv_has_F, h]; rfl
theorem Read_eq {D : Dv} (hk : DOk D) (hd : D.d = false) {a : Int} (h0 : 0 ≤ a) (h1 : a < (D.b.length : Int)) : dv_Read D a = (dv_has D a, 0) := by
  unfold dv_Read dv_read dv_there
  rw [if_pos ((open_iff D).2 ⟨hk, hd⟩), decide_eq_true h0, decide_eq_true h1]
  rfl
theorem Read_yes {D : Dv} {a : Int} (h : (dv_Read D a).2 = 0) : DOk D ∧ D.d = false ∧ 0 ≤ a ∧ a < (D.b.length : Int) := by
  unfold dv_Read at h
  split at h
  · rename_i h0
    obtain ⟨hk, hd⟩ := (open_iff D).1 h0
    unfold dv_read dv_there at h
    split at h
    · rename_i h1
      simp only [Bool.and_eq_true, decide_eq_true_eq] at h1
      exact ⟨hk, hd, h1.1, h1.2⟩
    · cases h
  · rename_i h0; exact absurd h h0
end Go.Proofs.YthlnjbaichkipaaDoor.XR
namespace Go.Proofs.YthlnjbaichkipaaDoor.Trl
open Go.Proofs.YthlnjbaichkipaaDoor.Sum Go.Proofs.YthlnjbaichkipaaDoor.Wire
theorem recsF_all : ∀ (ts : List Bl) (n : Nat) (X : List Bl), (∀ s ∈ ts, s.length ≤ 32768) → ts.length < n → recF [] X = none → recsF n (ts.flatMap blksF ++ X) = (ts, (ts.flatMap blksF).length)
  | [], n, X, _, _, hX => by
    rw [List.flatMap_nil, List.nil_append, recsF_none hX]
    rfl
  | s :: ts, 0, X, _, h, _ => absurd h (by omega)
  | s :: ts, n + 1, X, hs, h, hX => by
    have ih := recsF_all ts n X (fun x hx => hs x (List.mem_cons_of_mem _ hx)) (by simp only [List.length_cons] at h; omega) hX
    rw [List.flatMap_cons, List.append_assoc, recsF, recF_blks s (hs s (List.mem_cons_self ..))]
    simp only
    rw [List.drop_left, ih, List.length_append]
/-- What is read behind a crash: all that was there, and the last whole or not at all. -/
theorem recsF_crash (ts : List Bl) (s : Bl) (T Z : List Bl) (n : Nat) (hs : ∀ x ∈ ts, x.length ≤ 32768) (h1 : s.length ≤ 32768) (hn : ts.length + 1 < n) (hT : T.length = (blksF s).length) (ht : ∀ j (hj : j < T.length), ∃ k, T[j] = tornB ((blksF s).getD j []) k) (hZ : recF [] Z = none) :
    (recsF n (ts.flatMap blksF ++ (T ++ Z))).1 = ts ∨ (recsF n (ts.flatMap blksF ++ (T ++ Z))).1 = ts ++ [s] := by
  rcases recF_torn _ (frameL s) [] T Z (Nat.le_refl _) (by rw [hT]; exact Nat.le_refl _) ht (fun h => absurd h (by rw [hT]; exact Nat.lt_irrefl _)) with h | h
  · right
    have e : ts.flatMap blksF ++ (T ++ Z) = (ts ++ [s]).flatMap blksF ++ Z := by
      rw [h, List.flatMap_append, List.append_assoc]
      simp [blksF]
    rw [e, recsF_all (ts ++ [s]) n Z (fun x hx => by
      rcases List.mem_append.mp hx with hx | hx
      · exact hs x hx
      · rw [List.mem_singleton.mp hx]; exact h1) (by simp; omega) hZ]
  · left
    rw [recsF_all ts n (T ++ Z) hs (by omega) h]
end Go.Proofs.YthlnjbaichkipaaDoor.Trl
namespace Go.Proofs.YthlnjbaichkipaaDoor.XR
open Go.RowKit Go.Proofs.YthlnjbaichkipaaDoorW.PrintWords Go.Proofs.YthlnjbaichkipaaDoorW.PrintLast Go.Proofs.YthlnjbaichkipaaDoorW.PrintMore Go.Proofs.YthlnjbaichkipaaDoor.Wire Go.Proofs.YthlnjbaichkipaaDoor.Sum
theorem write_go {D : Dv} {a : Int} {s : ByteArray} (hf : D.f = -1) (ht : dv_there D a = true) (hs : s.size = 64) (hw : D.w.length < 4096) : dv_write D a s = (⟨D.b, D.w ++ [⟨a, s⟩], -1, D.d⟩, 0) := by
  unfold dv_write
  rw [if_pos ht, if_neg (by omega), if_neg (by omega), pad64 hs]
  unfold dv_asks
  simp [hf]
/-- The waits of blocks one behind the other. -/
def wts : Nat → List ByteArray → List S60
  | _, [] => []
  | p, s :: l => ⟨(p : Int), s⟩ :: wts (p + 1) l
theorem wts_len : ∀ (l : List ByteArray) (p : Nat), (wts p l).length = l.length
  | [], _ => rfl
  | s :: l, p => by rw [wts, List.length_cons, wts_len l, List.length_cons]
theorem wr_go : ∀ (l : List ByteArray) (D : Dv) (p : Nat), D.f = -1 → p + l.length ≤ D.b.length → (∀ s ∈ l, s.size = 64) → D.w.length + l.length ≤ 4096 → tr_wr D (p : Int) l = (⟨D.b, D.w ++ wts p l, -1, D.d⟩, 0)
  | [], D, p, hf, _, _, _ => by
    rw [tr_wr, wts, List.append_nil, ← hf]
  | s :: l, D, p, hf, hp, hs, hw => by
    simp only [List.length_cons] at hp hw
    have e := write_go (D := D) (a := (p : Int)) (s := s) hf (by unfold dv_there; simp; omega) (hs s (List.mem_cons_self ..)) (by omega)
    rw [tr_wr, e, if_pos rfl]
    have ih := wr_go l ⟨D.b, D.w ++ [⟨(p : Int), s⟩], -1, D.d⟩ (p + 1) rfl (by show p + 1 + l.length ≤ D.b.length; omega) (fun x hx => hs x (List.mem_cons_of_mem _ hx)) (by simp only [List.length_append, List.length_cons, List.length_nil]; omega)
    simp only at ih ⊢
    rw [show (p : Int) + 1 = ((p + 1 : Nat) : Int) by omega, ih, wts, List.append_assoc]
    rfl
/-- What a crash leaves of blocks that wait one behind the other. -/
theorem cr_wts (keep : List Int) (n : Nat) : ∀ (l : List ByteArray) (p i : Nat) (b : List ByteArray), p + l.length ≤ b.length → (cr_go keep i (wts p l) b).getD n ByteArray.empty = if p ≤ n ∧ n < p + l.length then cr_mix (l.getD (n - p) ByteArray.empty) (b.getD n ByteArray.empty) (cr_n keep (i + (n - p))) else b.getD n ByteArray.empty
  | [], p, i, b, _ => by
    rw [wts, cr_go, if_neg (by simp only [List.length_nil]; omega)]
  | s :: l, p, i, b, h => by
    simp only [List.length_cons] at h
    rw [wts, cr_go, cr_wts keep n l (p + 1) (i + 1) _ (by rw [List.length_set]; omega)]
    simp only [Int.toNat_natCast, List.length_cons]
    by_cases c : p = n
    · subst c
      rw [if_neg (by omega), if_pos (by omega), Nat.sub_self, List.getD_cons_zero, List.getD_eq_getElem?_getD, List.getElem?_set_self (by omega)]
      rfl
    · rw [List.getD_eq_getElem?_getD (l := b.set _ _), List.getElem?_set_ne c, ← List.getD_eq_getElem?_getD]
      by_cases c2 : p + 1 ≤ n ∧ n < p + 1 + l.length
      · rw [if_pos c2, if_pos (by omega), show n - p = (n - (p + 1)) + 1 by omega, List.getD_cons_succ, show i + 1 + (n - (p + 1)) = i + (n - (p + 1) + 1) by omega]
      · rw [if_neg c2, if_neg (by omega)]
/-- A block that is torn over zeros. -/
theorem mix_torn (s t : ByteArray) (n : Nat) (hs : s.size = 64) (ht : t.data.toList = Trl.zs 64) : (cr_mix s t n).data.toList = Trl.tornB s.data.toList n := by
  have hz : t.size = 64 := by
    have := congrArg List.length ht
    simpa [Trl.zs] using this
  unfold cr_mix Trl.tornB
  rw [ByteArray.data_append, Array.toList_append, ByteArray.data_extract, ByteArray.data_extract, Array.toList_extract, Array.toList_extract, ht, hz]
  congr 1
  rw [List.extract_eq_take_drop]
  unfold Trl.zs
  rw [List.drop_replicate, List.take_replicate, Nat.min_self]
/-- Wiping goes through. -/
theorem wipe_go (f : Int) (hf0 : 0 ≤ f) : ∀ (k : Nat) (i : Int) (D : Dv), 0 ≤ i → D.f = -1 → f + i + k ≤ (D.b.length : Int) → D.w.length + k ≤ 4096 → (tr_wipe D f k i).2 = 0
  | 0, i, D, _, _, _, _ => rfl
  | k + 1, i, D, hi, hf, hb, hw => by
    rw [tr_wipe]
    split
    · exact wipe_go f hf0 k (i + 1) D (by omega) hf (by omega) (by omega)
    · have e := write_go (D := D) (a := f + i) (s := tr_zeros 64) hf (by unfold dv_there; simp; omega) (tr_zeros_size 64) (by omega)
      rw [e, if_pos rfl]
      exact wipe_go f hf0 k (i + 1) _ (by omega) rfl (by show f + (i + 1) + k ≤ (D.b.length : Int); omega) (by simp only [List.length_append, List.length_cons, List.length_nil]; omega)
end Go.Proofs.YthlnjbaichkipaaDoor.XR
namespace Go.Proofs.YthlnjbaichkipaaDoor.XR
open Go.RowKit Go.Proofs.YthlnjbaichkipaaDoorW.PrintWords Go.Proofs.YthlnjbaichkipaaDoorW.PrintLast Go.Proofs.YthlnjbaichkipaaDoorW.PrintMore Go.Proofs.YthlnjbaichkipaaDoor.Wire Go.Proofs.YthlnjbaichkipaaDoor.Sum
theorem wts_app : ∀ (a b : List ByteArray) (p : Nat), wts p (a ++ b) = wts p a ++ wts (p + a.length) b
  | [], b, p => by simp [wts]
  | s :: a, b, p => by
    rw [List.cons_append, wts, wts, wts_app a b (p + 1), List.cons_append, List.length_cons, show p + 1 + a.length = p + (a.length + 1) by omega]
theorem wts_mem : ∀ (l : List ByteArray) (p : Nat) (x : S60), x ∈ wts p l → (p : Int) ≤ x.f0 ∧ x.f0 < (p : Int) + l.length ∧ x.f1 ∈ l
  | [], p, x, h => by rw [wts] at h; cases h
  | s :: l, p, x, h => by
    rw [wts] at h
    rcases List.mem_cons.mp h with h | h
    · subst h
      refine ⟨Int.le_refl _, ?_, List.mem_cons_self ..⟩
      simp only [List.length_cons]; omega
    · obtain ⟨h1, h2, h3⟩ := wts_mem l (p + 1) x h
      refine ⟨by omega, ?_, List.mem_cons_of_mem _ h3⟩
      simp only [List.length_cons]; omega
theorem ap_wts (n : Nat) : ∀ (l : List ByteArray) (p : Nat) (b : List ByteArray), p + l.length ≤ b.length → (dv_apply (wts p l) b).getD n ByteArray.empty = if p ≤ n ∧ n < p + l.length then l.getD (n - p) ByteArray.empty else b.getD n ByteArray.empty
  | [], p, b, _ => by
    rw [if_neg (by simp only [List.length_nil]; omega)]
    rfl
  | s :: l, p, b, h => by
    simp only [List.length_cons] at h
    have e : dv_apply (wts p (s :: l)) b = dv_apply (wts (p + 1) l) (b.set ((p : Int)).toNat s) := rfl
    rw [e, ap_wts n l (p + 1) _ (by rw [List.length_set]; omega)]
    simp only [Int.toNat_natCast, List.length_cons]
    by_cases c : p = n
    · subst c
      rw [if_neg (by omega), if_pos (by omega), Nat.sub_self, List.getD_cons_zero, List.getD_eq_getElem?_getD, List.getElem?_set_self (by omega)]
      rfl
    · rw [List.getD_eq_getElem?_getD (l := b.set _ _), List.getElem?_set_ne c, ← List.getD_eq_getElem?_getD]
      by_cases c2 : p + 1 ≤ n ∧ n < p + 1 + l.length
      · rw [if_pos c2, if_pos (by omega), show n - p = (n - (p + 1)) + 1 by omega, List.getD_cons_succ]
      · rw [if_neg c2, if_neg (by omega)]
/-- The blocks of texts. -/
abbrev bks (ts : List (List UInt8)) : List (List UInt8) := ts.flatMap Trl.blksF
theorem bks_size (ts : List (List UInt8)) : ∀ s ∈ (bks ts).map B, s.size = 64 := by
  intro s hs
  obtain ⟨y, hy, rfl⟩ := List.mem_map.mp hs
  obtain ⟨t, ht, hy⟩ := List.mem_flatMap.mp hy
  rw [B_size]
  exact Trl.blksF_size t y hy
/-- A device that has blocks, and waits from a place on. -/
def DD (b : List ByteArray) (p : Nat) (l : List ByteArray) : Dv := ⟨b, wts p l, -1, false⟩
theorem DD_ok {b : List ByteArray} {p : Nat} {l : List ByteArray} (hb : b.length = 64) (hs : ∀ s ∈ b, s.size = 64) (hp : p + l.length ≤ 64) (hl : ∀ s ∈ l, s.size = 64) : DOk (DD b p l) :=
  ⟨by show b.length ≤ 4096; omega, by show (wts p l).length ≤ 4096; rw [wts_len]; omega, by show (-1 : Int) ≤ -1; omega, hs, fun x hx => by
    obtain ⟨h1, h2, h3⟩ := wts_mem l p x hx
    exact ⟨by omega, by show x.f0 < (b.length : Int); omega, hl _ h3⟩⟩
theorem DD_fit {b : List ByteArray} {p : Nat} {l : List ByteArray} (hb : b.length = 64) (hs : ∀ s ∈ b, s.size = 64) (hp : p + l.length ≤ 64) (hl : ∀ s ∈ l, s.size = 64) : dv_fit (DD b p l) := (DD_ok hb hs hp hl).fit (by show (-1 : Int) ≤ _; omega)
theorem DD_open {b : List ByteArray} {p : Nat} {l : List ByteArray} (hb : b.length = 64) (hs : ∀ s ∈ b, s.size = 64) (hp : p + l.length ≤ 64) (hl : ∀ s ∈ l, s.size = 64) : tr_open (DD b p l) 4 60 = 0 :=
  open_yes (DD_ok hb hs hp hl) rfl (by show tr_in b.length 4 60; rw [hb]; unfold tr_in; omega)
/-- An append that fits goes through. -/
theorem app_go {b : List ByteArray} {p U : Nat} {l : List ByteArray} {s : List UInt8} (hb : b.length = 64) (hs : ∀ s ∈ b, s.size = 64) (hl : ∀ s ∈ l, s.size = 64) (he : p + l.length = 4 + U) (h1 : s.length ≤ 32768) (hu : U + (Trl.blksF s).length ≤ 60) :
    tr_Append (DD b p l) 4 60 (U : Int) (if s.length ≤ 32768 then (Trl.blksF s).map B else []) (if s.length ≤ 32768 then 0 else 12) = (DD b p (l ++ (Trl.blksF s).map B), ((U + (Trl.blksF s).length : Nat) : Int), 0) := by
  have ho := DD_open hb hs (p := p) (l := l) (by omega) hl
  unfold tr_Append
  rw [if_pos ho, if_pos h1, if_pos h1]
  unfold tr_append
  rw [if_neg (by omega), if_neg (by decide), if_neg (by rw [List.length_map]; omega)]
  have hw := wr_go ((Trl.blksF s).map B) (DD b p l) (4 + U) rfl (by show 4 + U + _ ≤ b.length; rw [List.length_map]; omega) (fun x hx => by
    obtain ⟨y, hy, rfl⟩ := List.mem_map.mp hx
    rw [B_size]
    exact Trl.blksF_size s y hy) (by show (wts p l).length + _ ≤ 4096; rw [wts_len, List.length_map]; omega)
  rw [show (4 : Int) + (U : Int) = ((4 + U : Nat) : Int) by omega, hw]
  simp only [if_true, List.length_map]
  unfold DD
  rw [wts_app, he]
  refine Prod.ext rfl (Prod.ext ?_ rfl)
  simp
/-- The last append: all of it, or nothing. -/
theorem app_last {b : List ByteArray} {p U : Nat} {s : List UInt8} (hb : b.length = 64) (hs : ∀ s ∈ b, s.size = 64) (he : p = 4 + U) (hu : U ≤ 60) :
    (tr_Append (DD b p []) 4 60 (U : Int) (if s.length ≤ 32768 then (Trl.blksF s).map B else []) (if s.length ≤ 32768 then 0 else 12)).1 = DD b p [] ∨ s.length ≤ 32768 ∧ U + (Trl.blksF s).length ≤ 60 ∧ (tr_Append (DD b p []) 4 60 (U : Int) (if s.length ≤ 32768 then (Trl.blksF s).map B else []) (if s.length ≤ 32768 then 0 else 12)).1 = DD b p ((Trl.blksF s).map B) := by
  have ho := DD_open hb hs (p := p) (l := []) (by simp only [List.length_nil]; omega) (by simp)
  by_cases c : s.length ≤ 32768
  · by_cases c2 : U + (Trl.blksF s).length ≤ 60
    · right
      refine ⟨c, c2, ?_⟩
      rw [app_go hb hs (by simp) (by simp only [List.length_nil]; omega) c c2, List.nil_append]
    · left
      unfold tr_Append
      rw [if_pos ho, if_pos c, if_pos c]
      unfold tr_append
      rw [if_neg (by omega), if_neg (by decide), if_pos (by rw [List.length_map]; omega)]
  · left
    unfold tr_Append
    rw [if_pos ho, if_neg c, if_neg c]
    unfold tr_append
    rw [if_neg (by omega), if_pos (by decide)]
/-- The sync goes through. -/
theorem sync_go {b : List ByteArray} {p : Nat} {l : List ByteArray} (hb : b.length = 64) (hs : ∀ s ∈ b, s.size = 64) (hp : p + l.length ≤ 64) (hl : ∀ s ∈ l, s.size = 64) (q : Nat) : dv_Sync (DD b p l) = (DD (dv_apply (wts p l) b) q [], 0) := by
  unfold dv_Sync
  rw [if_pos ((open_iff _).2 ⟨DD_ok hb hs hp hl, rfl⟩)]
  rfl
theorem crash_go {b : List ByteArray} {p : Nat} {l : List ByteArray} (hb : b.length = 64) (hs : ∀ s ∈ b, s.size = 64) (hp : p + l.length ≤ 64) (hl : ∀ s ∈ l, s.size = 64) (keep : List Int) (q : Nat) : dv_Crash (DD b p l) keep = (DD (cr_go keep 0 (wts p l) b) q [], 0) := Crash_eq (DD_ok hb hs hp hl) keep
theorem zrec (n : Nat) : Trl.recF [] (List.replicate n (Trl.zs 64)) = none := by
  cases n with
  | zero => rfl
  | succ n => rw [List.replicate_succ]; exact Trl.recF_zero _ _ _ rfl
end Go.Proofs.YthlnjbaichkipaaDoor.XR
namespace Go.Proofs.YthlnjbaichkipaaDoor.XR
open Go.RowKit Go.Proofs.YthlnjbaichkipaaDoorW.PrintWords Go.Proofs.YthlnjbaichkipaaDoorW.PrintLast Go.Proofs.YthlnjbaichkipaaDoorW.PrintMore Go.Proofs.YthlnjbaichkipaaDoor.Wire Go.Proofs.YthlnjbaichkipaaDoor.Sum
def z64 : List ByteArray := List.replicate 64 (dv_zeros 64)
theorem z64_len : z64.length = 64 := List.length_replicate
theorem z64_size : ∀ s ∈ z64, s.size = 64 := fun s hs => by rw [(List.mem_replicate.mp hs).2]; exact dv_zeros_size 64
theorem zeros_list : (dv_zeros 64).data.toList = Trl.zs 64 := by decide +kernel
theorem z64_get (n : Nat) (h : n < 64) : z64.getD n ByteArray.empty = dv_zeros 64 := by
  unfold z64
  rw [List.getD_eq_getElem?_getD, List.getElem?_replicate, if_pos h]
  rfl
theorem mapB_get (l : List (List UInt8)) (n : Nat) (h : n < l.length) : (l.map B).getD n ByteArray.empty = B (l[n]) := by
  rw [List.getD_eq_getElem?_getD, List.getElem?_map, List.getElem?_eq_getElem h]
  rfl
theorem crash_view (keep : List Int) (A K : List (List UInt8)) (hU : A.length + K.length ≤ 60) (hK : ∀ s ∈ K, s.length = 64) :
    blkL (DD (cr_go keep 0 (wts (4 + A.length) (K.map B)) (dv_apply (wts 4 (A.map B)) z64)) 0 []) 4 60 0 = A ++ ((List.range K.length).map (fun j => Trl.tornB (K.getD j []) (cr_n keep j)) ++ List.replicate (60 - A.length - K.length) (Trl.zs 64)) := by
  apply List.ext_getElem?
  intro j
  by_cases hj : j < 60
  · rw [blkL_get _ 4 60 0 j hj]
    unfold tr_blk
    rw [has_nil rfl]
    unfold DD
    simp only
    rw [show ((4 : Int) + (0 + (j : Int))).toNat = 4 + j by omega, cr_wts keep (4 + j) _ _ _ _ (by rw [dv_apply_len, z64_len, List.length_map]; omega), ap_wts (4 + j) _ _ _ (by rw [z64_len, List.length_map]; omega), List.length_map, List.length_map, z64_get _ (by omega)]
    by_cases c1 : j < A.length
    · rw [if_neg (by omega), if_pos (by omega), List.getElem?_append_left c1, show 4 + j - 4 = j by omega, mapB_get A j c1, List.getElem?_eq_getElem c1]
      exact congrArg some (B_toList _)
    · rw [if_neg (show ¬ (4 ≤ 4 + j ∧ 4 + j < 4 + A.length) by omega), List.getElem?_append_right (by omega)]
      by_cases c2 : j < A.length + K.length
      · rw [if_pos (by omega), List.getElem?_append_left (by simp; omega), List.getElem?_map, List.getElem?_range (by omega)]
        simp only [Option.map_some]
        have e : 4 + j - (4 + A.length) = j - A.length := by omega
        rw [e, mapB_get K (j - A.length) (by omega), mix_torn _ _ _ (by rw [B_size]; exact hK _ (List.getElem_mem _)) zeros_list, Nat.zero_add, List.getD_eq_getElem?_getD, List.getElem?_eq_getElem (show j - A.length < K.length by omega)]
        exact congrArg some (congrArg (fun x => Trl.tornB x (cr_n keep (j - A.length))) (B_toList _))
      · rw [if_neg (by omega), List.getElem?_append_right (by simp; omega), List.getElem?_replicate, if_pos (by simp; omega), zeros_list]
  · rw [List.getElem?_eq_none (by rw [blkL_len]; omega), List.getElem?_eq_none]
    simp
    omega
/-- What is read behind the crash. -/
theorem crash_read (keep : List Int) (ts : List (List UInt8)) (s : List UInt8) (K : List (List UInt8)) (hts : ∀ x ∈ ts, x.length ≤ 32768) (hn : ts.length + 1 < 61) (hK : K = [] ∨ s.length ≤ 32768 ∧ K = Trl.blksF s) (hU : (bks ts).length + K.length ≤ 60)
    (C : Dv) (hC : C = DD (cr_go keep 0 (wts (4 + (bks ts).length) (K.map B)) (dv_apply (wts 4 ((bks ts).map B)) z64)) 0 []) :
    DOk C ∧ C.f = -1 ∧ C.w = [] ∧ C.b.length = 64 ∧ tr_open C 4 60 = 0 ∧ ∃ (R : List (List UInt8)) (u : Int), tr_Read C 4 60 = some (R.map B, u, 0) ∧ (R = ts ∨ R = ts ++ [s]) := by
  have hK64 : ∀ x ∈ K, x.length = 64 := by
    rcases hK with rfl | ⟨_, rfl⟩
    · simp
    · exact Trl.blksF_size s
  have h1 : (dv_apply (wts 4 ((bks ts).map B)) z64).length = 64 := by rw [dv_apply_len, z64_len]
  have h2 : ∀ x ∈ dv_apply (wts 4 ((bks ts).map B)) z64, x.size = 64 := apply_size (fun x hx => bks_size ts _ (wts_mem _ _ _ hx).2.2) z64_size
  have h3 : (cr_go keep 0 (wts (4 + (bks ts).length) (K.map B)) (dv_apply (wts 4 ((bks ts).map B)) z64)).length = 64 := by rw [cr_go_len, h1]
  have h4 : ∀ x ∈ (cr_go keep 0 (wts (4 + (bks ts).length) (K.map B)) (dv_apply (wts 4 ((bks ts).map B)) z64)), x.size = 64 := cr_go_size keep _ 0 _ (fun x hx => by
    obtain ⟨a1, a2, a3⟩ := wts_mem _ _ _ hx
    rw [List.length_map] at a2
    refine ⟨by omega, by rw [h1]; omega, ?_⟩
    obtain ⟨y, hy, e⟩ := List.mem_map.mp a3
    rw [← e, B_size]
    exact hK64 y hy) h2
  have ho : tr_open C 4 60 = 0 := by rw [hC]; exact DD_open h3 h4 (by simp) (by simp)
  refine ⟨by rw [hC]; exact DD_ok h3 h4 (by simp) (by simp), by rw [hC]; rfl, by rw [hC]; rfl, by rw [hC]; exact h3, ho, ?_⟩
  rw [Read_eq2 ho, hC]
  have e60 : (60 : Int).toNat = 60 := rfl
  rw [e60, crash_view keep (bks ts) K hU hK64]
  refine ⟨_, _, rfl, ?_⟩
  rcases hK with rfl | ⟨hs, rfl⟩
  · left
    have e : (List.range ([] : List (List UInt8)).length).map (fun j => Trl.tornB (([] : List (List UInt8)).getD j []) (cr_n keep j)) = [] := rfl
    rw [e, List.nil_append, Trl.recsF_all ts _ _ hts (by omega) (zrec _)]
  · exact Trl.recsF_crash ts s _ _ _ hts hs (by omega) (by simp) (fun j hj => ⟨cr_n keep j, by simp⟩) (zrec _)
end Go.Proofs.YthlnjbaichkipaaDoor.XR
