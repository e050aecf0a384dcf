-- by a program of this session
import Derived.Test.YthlnjbaichkipaaDoorZQTrlP
import Derived.Test.YthlnjbaichkipaaDoorZQTrlD
import Derived.Test.YthlnjbaichkipaaDoorZQTrlB
set_option linter.unusedVariables false
set_option linter.unusedSimpArgs false
namespace Go.Proofs.YthlnjbaichkipaaDoor.Trl
open Go.Proofs.YthlnjbaichkipaaDoor.Sum Go.Proofs.YthlnjbaichkipaaDoor.Wire
theorem recF_zero (acc b : Bl) (r : List Bl) (h : b.getD 63 0 = 0) : recF acc (b :: r) = none := by
  rw [recF, h, if_neg (by decide), if_neg (by decide)]
def tornB (b : Bl) (k : Nat) : Bl := b.take k ++ zs (64 - k)
theorem tornB_full (b : Bl) (h : b.length = 64) (k : Nat) (hk : 64 ≤ k) : tornB b k = b := by
  unfold tornB
  rw [List.take_of_length_le (by omega), show 64 - k = 0 by omega]
  simp [zs]
theorem tornB_part (b : Bl) (h : b.length = 64) (k : Nat) (hk : k < 64) : (tornB b k).getD 63 0 = 0 := by
  unfold tornB
  rw [List.getD_eq_getElem?_getD, List.getElem?_append_right (by rw [List.length_take]; omega), List.length_take, Nat.min_eq_left (by omega)]
  unfold zs
  rw [List.getElem?_replicate]
  split <;> rfl
theorem recF_torn : ∀ (n : Nat) (f acc : Bl) (T X : List Bl), f.length ≤ n → T.length ≤ (cutF f).length → (∀ j (hj : j < T.length), ∃ k, T[j] = tornB ((cutF f).getD j []) k) → (T.length < (cutF f).length → ∃ b r, X = b :: r ∧ b.getD 63 0 = 0) → T = cutF f ∨ recF acc (T ++ X) = none
  | n, f, acc, [], X, hn, hT, ht, hX => by
    right
    have h0 : 0 < (cutF f).length := by
      by_cases c : 63 < f.length
      · rw [cutF_long c]; simp
      · rw [cutF_last c]; simp
    obtain ⟨b, r, rfl, hb⟩ := hX h0
    exact recF_zero _ _ _ hb
  | n, f, acc, t :: T, X, hn, hT, ht, hX => by
    obtain ⟨k, hk⟩ := ht 0 (by simp)
    simp only [List.getElem_cons_zero] at hk
    have hsz := cutF_size n f hn
    by_cases c : 63 < f.length
    · rw [cutF_long c] at hk hT hsz ⊢
      have h64 : (f.take 63 ++ [(1 : UInt8)]).length = 64 := hsz _ (List.mem_cons_self ..)
      simp only [List.getD_cons_zero] at hk
      by_cases hf : k < 64
      · right
        rw [List.cons_append, hk]
        exact recF_zero _ _ _ (tornB_part _ h64 k hf)
      · rw [tornB_full _ h64 k (by omega)] at hk
        subst hk
        have hd : (f.drop 63).length = f.length - 63 := List.length_drop
        obtain ⟨n', rfl⟩ : ∃ n', n = n' + 1 := ⟨n - 1, by omega⟩
        have hg : (f.take 63 ++ [(1 : UInt8)]).getD 63 0 = 1 := by
          rw [List.getD_eq_getElem?_getD, List.getElem?_append_right (by rw [List.length_take]; omega), List.length_take, Nat.min_eq_left (by omega)]
          rfl
        rcases recF_torn n' (f.drop 63) (acc ++ (f.take 63 ++ [(1 : UInt8)]).take 63) T X (by omega) (by simpa using hT) (fun j hj => by
          obtain ⟨k, hk⟩ := ht (j + 1) (by simp; omega)
          refine ⟨k, ?_⟩
          rw [cutF_long c] at hk
          simpa using hk) (fun h => hX (by rw [cutF_long c]; simp; omega)) with h | h
        · left; rw [h]
        · right
          rw [List.cons_append, recF, if_pos hg, h]
          rfl
    · rw [cutF_last c] at hk hT hsz ⊢
      have h64 : (f ++ zs (63 - f.length) ++ [(2 : UInt8)]).length = 64 := hsz _ (List.mem_cons_self ..)
      simp only [List.getD_cons_zero] at hk
      have hT0 : T = [] := by
        simp only [List.length_cons, List.length_nil] at hT
        exact List.eq_nil_of_length_eq_zero (by omega)
      subst hT0
      by_cases hf : k < 64
      · right
        rw [List.cons_append, hk]
        exact recF_zero _ _ _ (tornB_part _ h64 k hf)
      · rw [tornB_full _ h64 k (by omega)] at hk
        left
        rw [hk]
theorem recsF_none {n : Nat} {l : List Bl} (h : recF [] l = none) : recsF n l = ([], 0) := by
  cases n with
  | zero => rfl
  | succ n => rw [recsF, h]
end Go.Proofs.YthlnjbaichkipaaDoor.Trl
namespace Go.Proofs.YthlnjbaichkipaaDoor.XR
open Go.RowKit Go.Proofs.YthlnjbaichkipaaDoorW.PrintWords Go.Proofs.YthlnjbaichkipaaDoorW.PrintLast Go.Proofs.YthlnjbaichkipaaDoorW.PrintMore
theorem apply_size {ws : List S60} {b : List ByteArray} (hw : ∀ x ∈ ws, x.f1.size = 64) (hb : ∀ s ∈ b, s.size = 64) : ∀ s ∈ dv_apply ws b, s.size = 64 := by
  unfold dv_apply
  induction ws generalizing b with
  | nil => exact hb
  | cons x ws ih =>
    rw [List.foldl_cons]
    refine ih (fun y hy => hw y (List.mem_cons_of_mem _ hy)) (fun s hs => ?_)
    rcases List.mem_or_eq_of_mem_set hs with h | h
    · exact hb s h
    · rw [h]; exact hw x (List.mem_cons_self ..)
theorem cr_go_len (keep : List Int) : ∀ (ws : List S60) (i : Nat) (b : List ByteArray), (cr_go keep i ws b).length = b.length
  | [], _, _ => rfl
  | x :: ws, i, b => by rw [cr_go, cr_go_len keep ws, List.length_set]
theorem cr_go_size (keep : List Int) : ∀ (ws : List S60) (i : Nat) (b : List ByteArray), (∀ x ∈ ws, 0 ≤ x.f0 ∧ x.f0 < (b.length : Int) ∧ x.f1.size = 64) → (∀ s ∈ b, s.size = 64) → ∀ s ∈ cr_go keep i ws b, s.size = 64
  | [], _, _, _, hb => hb
  | x :: ws, i, b, hw, hb => by
    rw [cr_go]
    have hx := hw x (List.mem_cons_self ..)
    refine cr_go_size keep ws (i + 1) _ (fun y hy => by rw [List.length_set]; exact hw y (List.mem_cons_of_mem _ hy)) (fun s hs => ?_)
    rcases List.mem_or_eq_of_mem_set hs with h | h
    · exact hb s h
    · rw [h]
      refine cr_mix_size hx.2.2 (hb _ ?_) (cr_n_le keep i)
      rw [List.getD_eq_getElem?_getD, List.getElem?_eq_getElem (by omega)]
      exact List.getElem_mem _
theorem Crash_eq {D : Dv} (h : DOk D) (keep : List Int) : dv_Crash D keep = (⟨cr_go keep 0 D.w D.b, [], -1, false⟩, 0) := if_pos ((dok_iff D).2 h)
theorem Crash_ok {D : Dv} (h : DOk D) (keep : List Int) : DOk ⟨cr_go keep 0 D.w D.b, [], -1, false⟩ :=
  ⟨by simp only [cr_go_len]; exact h.b, by simp, by simp, cr_go_size keep D.w 0 D.b h.x h.s, by simp⟩
theorem has_nil {D : Dv} (h : D.w = []) (a : Int) : dv_has D a = D.b.getD a.toNat ByteArray.empty := by rw [dv_has_F, h]; rfl
end Go.Proofs.YthlnjbaichkipaaDoor.XR
namespace Go.Proofs.YthlnjbaichkipaaDoor.Trl
open Go.Proofs.YthlnjbaichkipaaDoor.Sum Go.Proofs.YthlnjbaichkipaaDoor.Wire
theorem recsF_all : ∀ (ts : List Bl) (n : Nat) (X : List Bl), (∀ s ∈ ts, s.length ≤ 32768) → ts.length < n → recF [] X = none → recsF n (ts.flatMap blksF ++ X) = (ts, (ts.flatMap blksF).length)
  | [], n, X, _, _, hX => by
    rw [List.flatMap_nil, List.nil_append, recsF_none hX]
    rfl
  | s :: ts, 0, X, _, h, _ => absurd h (by omega)
  | s :: ts, n + 1, X, hs, h, hX => by
    have ih := recsF_all ts n X (fun x hx => hs x (List.mem_cons_of_mem _ hx)) (by simp only [List.length_cons] at h; omega) hX
    rw [List.flatMap_cons, List.append_assoc, recsF, recF_blks s (hs s (List.mem_cons_self ..))]
    simp only
    rw [List.drop_left, ih, List.length_append]
end Go.Proofs.YthlnjbaichkipaaDoor.Trl
namespace Go.Proofs.YthlnjbaichkipaaDoor.XR
open Go.RowKit Go.Proofs.YthlnjbaichkipaaDoorW.PrintWords Go.Proofs.YthlnjbaichkipaaDoorW.PrintLast Go.Proofs.YthlnjbaichkipaaDoorW.PrintMore Go.Proofs.YthlnjbaichkipaaDoor.Wire Go.Proofs.YthlnjbaichkipaaDoor.Sum
theorem write_go {D : Dv} {a : Int} {s : ByteArray} (hf : D.f = -1) (ht : dv_there D a = true) (hs : s.size = 64) (hw : D.w.length < 4096) : dv_write D a s = (⟨D.b, D.w ++ [⟨a, s⟩], -1, D.d⟩, 0) := by
  unfold dv_write
  rw [if_pos ht, if_neg (by omega), if_neg (by omega), pad64 hs]
  unfold dv_asks
  simp [hf]
def wts : Nat → List ByteArray → List S60
  | _, [] => []
  | p, s :: l => ⟨(p : Int), s⟩ :: wts (p + 1) l
theorem wts_len : ∀ (l : List ByteArray) (p : Nat), (wts p l).length = l.length
  | [], _ => rfl
  | s :: l, p => by rw [wts, List.length_cons, wts_len l, List.length_cons]
theorem wr_go : ∀ (l : List ByteArray) (D : Dv) (p : Nat), D.f = -1 → p + l.length ≤ D.b.length → (∀ s ∈ l, s.size = 64) → D.w.length + l.length ≤ 4096 → tr_wr D (p : Int) l = (⟨D.b, D.w ++ wts p l, -1, D.d⟩, 0)
  | [], D, p, hf, _, _, _ => by
    rw [tr_wr, wts, List.append_nil, ← hf]
  | s :: l, D, p, hf, hp, hs, hw => by
    simp only [List.length_cons] at hp hw
    have e := write_go (D := D) (a := (p : Int)) (s := s) hf (by unfold dv_there; simp; omega) (hs s (List.mem_cons_self ..)) (by omega)
    rw [tr_wr, e, if_pos rfl]
    have ih := wr_go l ⟨D.b, D.w ++ [⟨(p : Int), s⟩], -1, D.d⟩ (p + 1) rfl (by show p + 1 + l.length ≤ D.b.length; omega) (fun x hx => hs x (List.mem_cons_of_mem _ hx)) (by simp only [List.length_append, List.length_cons, List.length_nil]; omega)
    simp only at ih ⊢
    rw [show (p : Int) + 1 = ((p + 1 : Nat) : Int) by omega, ih, wts, List.append_assoc]
    rfl
theorem cr_wts (keep : List Int) (n : Nat) : ∀ (l : List ByteArray) (p i : Nat) (b : List ByteArray), p + l.length ≤ b.length → (cr_go keep i (wts p l) b).getD n ByteArray.empty = if p ≤ n ∧ n < p + l.length then cr_mix (l.getD (n - p) ByteArray.empty) (b.getD n ByteArray.empty) (cr_n keep (i + (n - p))) else b.getD n ByteArray.empty
  | [], p, i, b, _ => by
    rw [wts, cr_go, if_neg (by simp only [List.length_nil]; omega)]
  | s :: l, p, i, b, h => by
    simp only [List.length_cons] at h
    rw [wts, cr_go, cr_wts keep n l (p + 1) (i + 1) _ (by rw [List.length_set]; omega)]
    simp only [Int.toNat_natCast, List.length_cons]
    by_cases c : p = n
    · subst c
      rw [if_neg (by omega), if_pos (by omega), Nat.sub_self, List.getD_cons_zero, List.getD_eq_getElem?_getD, List.getElem?_set_self (by omega)]
      rfl
    · rw [List.getD_eq_getElem?_getD (l := b.set _ _), List.getElem?_set_ne c, ← List.getD_eq_getElem?_getD]
      by_cases c2 : p + 1 ≤ n ∧ n < p + 1 + l.length
      · rw [if_pos c2, if_pos (by omega), show n - p = (n - (p + 1)) + 1 by omega, List.getD_cons_succ, show i + 1 + (n - (p + 1)) = i + (n - (p + 1) + 1) by omega]
      · rw [if_neg c2, if_neg (by omega)]
theorem mix_torn (s t : ByteArray) (n : Nat) (hs : s.size = 64) (ht : t.data.toList = Trl.zs 64) : (cr_mix s t n).data.toList = Trl.tornB s.data.toList n := by
  have hz : t.size = 64 := by
    have := congrArg List.length ht
    simpa [Trl.zs] using this
  unfold cr_mix Trl.tornB
  rw [ByteArray.data_append, Array.toList_append, ByteArray.data_extract, ByteArray.data_extract, Array.toList_extract, Array.toList_extract, ht, hz]
  congr 1
  rw [List.extract_eq_take_drop]
  unfold Trl.zs
  rw [List.drop_replicate, List.take_replicate, Nat.min_self]
end Go.Proofs.YthlnjbaichkipaaDoor.XR
namespace Go.Proofs.YthlnjbaichkipaaDoor.XR
open Go.RowKit Go.Proofs.YthlnjbaichkipaaDoorW.PrintWords Go.Proofs.YthlnjbaichkipaaDoorW.PrintLast Go.Proofs.YthlnjbaichkipaaDoorW.PrintMore Go.Proofs.YthlnjbaichkipaaDoor.Wire Go.Proofs.YthlnjbaichkipaaDoor.Sum
theorem wts_app : ∀ (a b : List ByteArray) (p : Nat), wts p (a ++ b) = wts p a ++ wts (p + a.length) b
  | [], b, p => by simp [wts]
  | s :: a, b, p => by
    rw [List.cons_append, wts, wts, wts_app a b (p + 1), List.cons_append, List.length_cons, show p + 1 + a.length = p + (a.length + 1) by omega]
theorem wts_mem : ∀ (l : List ByteArray) (p : Nat) (x : S60), x ∈ wts p l → (p : Int) ≤ x.f0 ∧ x.f0 < (p : Int) + l.length ∧ x.f1 ∈ l
  | [], p, x, h => by rw [wts] at h; cases h
  | s :: l, p, x, h => by
    rw [wts] at h
    rcases List.mem_cons.mp h with h | h
    · subst h
      refine ⟨Int.le_refl _, ?_, List.mem_cons_self ..⟩
      simp only [List.length_cons]; omega
    · obtain ⟨h1, h2, h3⟩ := wts_mem l (p + 1) x h
      refine ⟨by omega, ?_, List.mem_cons_of_mem _ h3⟩
      simp only [List.length_cons]; omega
theorem ap_wts (n : Nat) : ∀ (l : List ByteArray) (p : Nat) (b : List ByteArray), p + l.length ≤ b.length → (dv_apply (wts p l) b).getD n ByteArray.empty = if p ≤ n ∧ n < p + l.length then l.getD (n - p) ByteArray.empty else b.getD n ByteArray.empty
  | [], p, b, _ => by
    rw [if_neg (by simp only [List.length_nil]; omega)]
    rfl
  | s :: l, p, b, h => by
    simp only [List.length_cons] at h
    have e : dv_apply (wts p (s :: l)) b = dv_apply (wts (p + 1) l) (b.set ((p : Int)).toNat s) := rfl
    rw [e, ap_wts n l (p + 1) _ (by rw [List.length_set]; omega)]
    simp only [Int.toNat_natCast, List.length_cons]
    by_cases c : p = n
    · subst c
      rw [if_neg (by omega), if_pos (by omega), Nat.sub_self, List.getD_cons_zero, List.getD_eq_getElem?_getD, List.getElem?_set_self (by omega)]
      rfl
    · rw [List.getD_eq_getElem?_getD (l := b.set _ _), List.getElem?_set_ne c, ← List.getD_eq_getElem?_getD]
      by_cases c2 : p + 1 ≤ n ∧ n < p + 1 + l.length
      · rw [if_pos c2, if_pos (by omega), show n - p = (n - (p + 1)) + 1 by omega, List.getD_cons_succ]
      · rw [if_neg c2, if_neg (by omega)]
abbrev bks (ts : List (List UInt8)) : List (List UInt8) := ts.flatMap Trl.blksF
theorem bks_size (ts : List (List UInt8)) : ∀ s ∈ (bks ts).map B, s.size = 64 := by
  intro s hs
  obtain ⟨y, hy, rfl⟩ := List.mem_map.mp hs
  obtain ⟨t, ht, hy⟩ := List.mem_flatMap.mp hy
  rw [B_size]
  exact Trl.blksF_size t y hy
def DD (b : List ByteArray) (p : Nat) (l : List ByteArray) : Dv := ⟨b, wts p l, -1, false⟩
theorem DD_ok {b : List ByteArray} {p : Nat} {l : List ByteArray} (hb : b.length = 64) (hs : ∀ s ∈ b, s.size = 64) (hp : p + l.length ≤ 64) (hl : ∀ s ∈ l, s.size = 64) : DOk (DD b p l) :=
  ⟨by show b.length ≤ 4096; omega, by show (wts p l).length ≤ 4096; rw [wts_len]; omega, by show (-1 : Int) ≤ -1; omega, hs, fun x hx => by
    obtain ⟨h1, h2, h3⟩ := wts_mem l p x hx
    exact ⟨by omega, by show x.f0 < (b.length : Int); omega, hl _ h3⟩⟩
theorem DD_fit {b : List ByteArray} {p : Nat} {l : List ByteArray} (hb : b.length = 64) (hs : ∀ s ∈ b, s.size = 64) (hp : p + l.length ≤ 64) (hl : ∀ s ∈ l, s.size = 64) : dv_fit (DD b p l) := (DD_ok hb hs hp hl).fit (by show (-1 : Int) ≤ _; omega)
theorem sync_go {b : List ByteArray} {p : Nat} {l : List ByteArray} (hb : b.length = 64) (hs : ∀ s ∈ b, s.size = 64) (hp : p + l.length ≤ 64) (hl : ∀ s ∈ l, s.size = 64) (q : Nat) : dv_Sync (DD b p l) = (DD (dv_apply (wts p l) b) q [], 0) := by
  unfold dv_Sync
  rw [if_pos ((open_iff _).2 ⟨DD_ok hb hs hp hl, rfl⟩)]
  rfl
theorem zrec (n : Nat) : Trl.recF [] (List.replicate n (Trl.zs 64)) = none := by
  cases n with
  | zero => rfl
  | succ n => rw [List.replicate_succ]; exact Trl.recF_zero _ _ _ rfl
end Go.Proofs.YthlnjbaichkipaaDoor.XR
namespace Go.Proofs.YthlnjbaichkipaaDoor.XR
open Go.RowKit Go.Proofs.YthlnjbaichkipaaDoorW.PrintWords Go.Proofs.YthlnjbaichkipaaDoorW.PrintLast Go.Proofs.YthlnjbaichkipaaDoorW.PrintMore Go.Proofs.YthlnjbaichkipaaDoor.Wire Go.Proofs.YthlnjbaichkipaaDoor.Sum
def z64 : List ByteArray := List.replicate 64 (dv_zeros 64)
theorem z64_len : z64.length = 64 := List.length_replicate
theorem z64_size : ∀ s ∈ z64, s.size = 64 := fun s hs => by rw [(List.mem_replicate.mp hs).2]; exact dv_zeros_size 64
theorem zeros_list : (dv_zeros 64).data.toList = Trl.zs 64 := by decide +kernel
theorem z64_get (n : Nat) (h : n < 64) : z64.getD n ByteArray.empty = dv_zeros 64 := by
  unfold z64
  rw [List.getD_eq_getElem?_getD, List.getElem?_replicate, if_pos h]
  rfl
theorem mapB_get (l : List (List UInt8)) (n : Nat) (h : n < l.length) : (l.map B).getD n ByteArray.empty = B (l[n]) := by
  rw [List.getD_eq_getElem?_getD, List.getElem?_map, List.getElem?_eq_getElem h]
  rfl
end Go.Proofs.YthlnjbaichkipaaDoor.XR
