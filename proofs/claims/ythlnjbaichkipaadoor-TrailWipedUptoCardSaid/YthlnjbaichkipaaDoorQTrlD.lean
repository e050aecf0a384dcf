-- by a program of this session
import Derived.Test.YthlnjbaichkipaaDoorXR6
import Derived.Test.YthlnjbaichkipaaDoorXR5
set_option linter.unusedVariables false
set_option linter.unusedSimpArgs false
/-! Devices: the plain theory of what the program does to one (the part of QDevP that Trail wants). -/
namespace Go.Proofs.YthlnjbaichkipaaDoor.XR
open Go.RowKit Go.Proofs.YthlnjbaichkipaaDoorW.PrintWords Go.Proofs.YthlnjbaichkipaaDoorW.PrintLast Go.Proofs.YthlnjbaichkipaaDoorW.PrintMore
theorem dv_wrap (i : Nat) (h : i ≤ 9000000000000000000) : wrap64 ((i : Int) + 1) = ((i + 1 : Nat) : Int) := by unfold wrap64; omega
theorem dv_rdw (l : List S60) (i : Nat) (h : i < l.length) : rd_T60 l (i : Int) = l[i] := by
  unfold rd_T60
  rw [Int.toNat_natCast, List.getD_eq_getElem?_getD, List.getElem?_eq_getElem h]; rfl
theorem dv_rdb (l : List ByteArray) (i : Nat) (h : i < l.length) : rdOf ByteArray.empty l (i : Int) = l[i] := by
  unfold rdOf
  rw [Int.toNat_natCast, List.getD_eq_getElem?_getD, List.getElem?_eq_getElem h]; rfl
/-- What a block has, from the first wait on. -/
def hasF (a : Int) (s : ByteArray) (l : List S60) : ByteArray := l.foldl (fun s x => if x.f0 = a then x.f1 else s) s
theorem hasF_rev (a : Int) (s : ByteArray) (l : List S60) : hasF a s l = match l.reverse.find? (fun x => x.f0 == a) with | some x => x.f1 | none => s := by
  unfold hasF
  induction l generalizing s with
  | nil => rfl
  | cons x l ih =>
    rw [List.foldl_cons, ih, List.reverse_cons, List.find?_append]
    cases h : List.find? (fun x => x.f0 == a) l.reverse with
    | some y => simp
    | none =>
      by_cases c : x.f0 = a
      · simp [c]
      · simp [c]
theorem dv_has_F (D : Dv) (a : Int) : dv_has D a = hasF a (D.b.getD a.toNat ByteArray.empty) D.w := by
  rw [hasF_rev]; rfl
theorem dv_i64 {n : Int} (h : (Lit.int .i64 n).wf = true) : -9223372036854775808 ≤ n ∧ n ≤ 9223372036854775807 := by
  simp [Lit.wf, IntKind.min, IntKind.max, IntKind.signed, IntKind.bits] at h
  omega
theorem len_sum {α : Type} (f : α → Nat) (hf : ∀ x, 1 ≤ f x) : ∀ l : List α, l.length ≤ (l.map f).sum
  | [] => Nat.le_refl _
  | x :: l => by
    have := len_sum f hf l
    have := hf x
    simp only [List.length_cons, List.map_cons, List.sum_cons]
    omega
/-- A device within the bound has slices that may be cloned. -/
theorem fit_of {b : List ByteArray} {w : List S60} {f : Int} {d : Bool} (hb : (b.map (fun x => (x.size + 1))).sum ≤ 1048576) (hw : (w.map (fun x => ((1 + (x.f1.size + 1)) + 1))).sum ≤ 1048576) (hf : (Lit.int .i64 f).wf = true) : dv_fit ⟨b, w, f, d⟩ := by
  have h1 := len_sum (fun x : ByteArray => x.size + 1) (fun _ => Nat.le_add_left _ _) b
  have h2 := len_sum (fun x : S60 => (1 + (x.f1.size + 1)) + 1) (fun _ => Nat.le_add_left _ _) w
  have h3 := dv_i64 hf
  refine ⟨?_, ?_, h3.2⟩
  · show b.length < _; omega
  · show w.length < _; omega
/-- What a right device is. -/
structure DOk (D : Dv) : Prop where
  b : D.b.length ≤ 4096
  w : D.w.length ≤ 4096
  f : -1 ≤ D.f
  s : ∀ s ∈ D.b, s.size = 64
  x : ∀ x ∈ D.w, 0 ≤ x.f0 ∧ x.f0 < (D.b.length : Int) ∧ x.f1.size = 64
theorem dok_iff (D : Dv) : dv_check D = 0 ↔ DOk D := by
  unfold dv_check
  constructor
  · intro h
    split at h
    · rename_i h2
      unfold dv_ok dv_okw at h2
      simp only [Bool.and_eq_true, decide_eq_true_eq, List.all_eq_true, beq_iff_eq] at h2
      exact ⟨h2.1, h2.2.1, h2.2.2.1, h2.2.2.2.1, h2.2.2.2.2⟩
    · cases h
  · intro h
    rw [if_pos]
    unfold dv_ok dv_okw
    simp only [Bool.and_eq_true, decide_eq_true_eq, List.all_eq_true, beq_iff_eq]
    exact ⟨h.b, h.w, h.f, h.s, h.x⟩
theorem dok_not {D : Dv} (h : ¬ DOk D) : dv_check D = 2 := by
  unfold dv_check
  split
  · rename_i h2
    exact absurd ((dok_iff D).1 (by unfold dv_check; rw [if_pos h2])) h
  · rfl
theorem DOk.fit {D : Dv} (h : DOk D) (hf : D.f ≤ 9223372036854775807) : dv_fit D := ⟨by have := h.b; omega, by have := h.w; omega, hf⟩
theorem open_iff (D : Dv) : dv_open D = 0 ↔ DOk D ∧ D.d = false := by
  unfold dv_open
  constructor
  · intro h
    split at h
    · rename_i h1
      refine ⟨(dok_iff D).1 h1, ?_⟩
      split at h
      · cases h
      · rename_i h2; simpa using h2
    · rename_i h1; exact absurd h h1
  · rintro ⟨h1, h2⟩
    rw [if_pos ((dok_iff D).2 h1), h2]
    rfl
theorem zero_ok : DOk dv_zero := ⟨by simp [dv_zero], by simp [dv_zero], by simp [dv_zero], by simp [dv_zero], by simp [dv_zero]⟩
theorem dev_ok (D : Dv) : DOk (dv_dev D) := by
  unfold dv_dev
  split
  · rename_i h; exact (dok_iff D).1 h
  · exact zero_ok
theorem dev_f {D : Dv} (h : D.f ≤ 9223372036854775807) : (dv_dev D).f ≤ 9223372036854775807 := by
  unfold dv_dev
  split
  · exact h
  · simp [dv_zero]
theorem DOk.dev {D : Dv} (h : DOk D) : dv_dev D = D := if_pos ((dok_iff D).2 h)
/-- What a write, or a sync, asks leaves a right device. -/
theorem asks_eq (D : Dv) : (dv_asks D).1.b = D.b ∧ (dv_asks D).1.w = D.w := by unfold dv_asks; split <;> exact ⟨rfl, rfl⟩
theorem asks_f {D : Dv} (h : -1 ≤ D.f) : -1 ≤ (dv_asks D).1.f ∧ (dv_asks D).1.f ≤ max D.f 0 := by
  unfold dv_asks
  split
  · rename_i h0; exact ⟨h, by simp only; omega⟩
  · simp only
    split <;> omega
theorem asks_ok {D : Dv} (h : DOk D) : DOk (dv_asks D).1 := by
  obtain ⟨e1, e2⟩ := asks_eq D
  have e3 := asks_f h.f
  exact ⟨by rw [e1]; exact h.b, by rw [e2]; exact h.w, e3.1, by rw [e1]; exact h.s, by rw [e1, e2]; exact h.x⟩
theorem asks_two (D : Dv) : (dv_asks D).2 = 0 ∧ (dv_asks D).1.d = D.d ∨ (dv_asks D).2 = 9 := by
  unfold dv_asks
  split
  · exact .inr rfl
  · exact .inl ⟨rfl, rfl⟩
theorem apply_size {ws : List S60} {b : List ByteArray} (hw : ∀ x ∈ ws, x.f1.size = 64) (hb : ∀ s ∈ b, s.size = 64) : ∀ s ∈ dv_apply ws b, s.size = 64 := by
  unfold dv_apply
  induction ws generalizing b with
  | nil => exact hb
  | cons x ws ih =>
    rw [List.foldl_cons]
    refine ih (fun y hy => hw y (List.mem_cons_of_mem _ hy)) (fun s hs => ?_)
    rcases List.mem_or_eq_of_mem_set hs with h | h
    · exact hb s h
    · rw [h]; exact hw x (List.mem_cons_self ..)
/-- The blocks behind a sync. -/
theorem apply_get (n : Nat) : ∀ (ws : List S60) (b : List ByteArray), (∀ x ∈ ws, 0 ≤ x.f0 ∧ x.f0 < (b.length : Int)) → n < b.length → (dv_apply ws b).getD n ByteArray.empty = hasF (n : Int) (b.getD n ByteArray.empty) ws
  | [], b, _, _ => rfl
  | x :: ws, b, hw, hn => by
    have hx := hw x (List.mem_cons_self ..)
    have ih := apply_get n ws (b.set x.f0.toNat x.f1) (fun y hy => by rw [List.length_set]; exact hw y (List.mem_cons_of_mem _ hy)) (by rw [List.length_set]; exact hn)
    have e : dv_apply (x :: ws) b = dv_apply ws (b.set x.f0.toNat x.f1) := rfl
    have e2 : ∀ s, hasF (n : Int) s (x :: ws) = hasF (n : Int) (if x.f0 = (n : Int) then x.f1 else s) ws := fun s => rfl
    rw [e, ih, e2]
    congr 1
    by_cases c : x.f0 = (n : Int)
    · rw [if_pos c, c, Int.toNat_natCast, List.getD_eq_getElem?_getD, List.getElem?_set_self (by omega)]
      rfl
    · rw [if_neg c, List.getD_eq_getElem?_getD, List.getElem?_set_ne (by omega), ← List.getD_eq_getElem?_getD]
theorem sync_ok {D : Dv} (h : DOk D) : DOk (dv_sync D).1 := by
  unfold dv_sync
  have hk := asks_ok h
  split
  · exact ⟨by simp only [dv_apply_len]; exact hk.b, by simp, hk.f, apply_size (fun x hx => (hk.x x hx).2.2) hk.s, by simp⟩
  · exact hk
theorem zeros_add (s : ByteArray) (h : s.size ≤ 64) : (s ++ dv_zeros (64 - s.size)).size = 64 := by
  rw [ByteArray.size_append, dv_zeros_size]; omega
/-- A wait more. -/
theorem push_ok {D : Dv} (h : DOk D) {at_ : Int} (ht : dv_there D at_ = true) (hw : ¬ D.w.length = 4096) {s : ByteArray} (hs : s.size = 64) : DOk ⟨D.b, D.w ++ [⟨at_, s⟩], D.f, D.d⟩ := by
  unfold dv_there at ht
  simp only [Bool.and_eq_true, decide_eq_true_eq] at ht
  refine ⟨h.b, ?_, h.f, h.s, fun x hx => ?_⟩
  · have := h.w
    simp only [List.length_append, List.length_cons, List.length_nil]
    omega
  · rcases List.mem_append.1 hx with h1 | h1
    · exact h.x x h1
    · rw [List.mem_singleton] at h1
      subst h1
      exact ⟨ht.1, ht.2, hs⟩
theorem write_ok {D : Dv} (h : DOk D) (at_ : Int) (s : ByteArray) : DOk (dv_write D at_ s).1 := by
  unfold dv_write
  split
  · rename_i ht
    split
    · exact h
    · rename_i hs
      split
      · exact h
      · rename_i hw
        exact asks_ok (push_ok h ht hw (zeros_add s (by omega)))
  · exact h
theorem write_f {D : Dv} (h : -1 ≤ D.f) (at_ : Int) (s : ByteArray) : (dv_write D at_ s).1.f ≤ max D.f 0 := by
  unfold dv_write
  split
  · split
    · simp only; omega
    · split
      · simp only; omega
      · exact (asks_f (D := ⟨D.b, D.w ++ [⟨at_, s ++ dv_zeros (64 - s.size)⟩], D.f, D.d⟩) h).2
  · simp only; omega
theorem Sync_ok (D : Dv) : DOk (dv_Sync D).1 := by
  unfold dv_Sync
  split
  · rename_i h; exact sync_ok ((open_iff D).1 h).1
  · exact dev_ok D
theorem sync_f {D : Dv} (h : -1 ≤ D.f) : (dv_sync D).1.f ≤ max D.f 0 := by
  unfold dv_sync
  have := (asks_f h).2
  split <;> exact this
theorem Sync_f {D : Dv} (hf : D.f ≤ 9223372036854775807) : (dv_Sync D).1.f ≤ 9223372036854775807 := by
  unfold dv_Sync
  split
  · rename_i h
    have := sync_f ((open_iff D).1 h).1.f
    omega
  · exact dev_f hf
/-- Where a sync goes through. -/
theorem Sync_yes {D : Dv} (h : (dv_Sync D).2 = 0) : DOk D ∧ D.d = false ∧ (dv_Sync D).1.b = dv_apply D.w D.b ∧ (dv_Sync D).1.w = [] ∧ (dv_Sync D).1.d = false := by
  unfold dv_Sync at h ⊢
  split at h
  · rename_i h0
    obtain ⟨hk, hd⟩ := (open_iff D).1 h0
    rw [if_pos h0]
    unfold dv_sync at h ⊢
    obtain ⟨e1, e2⟩ := asks_eq D
    split at h
    · rename_i h1
      rw [if_pos h1]
      refine ⟨hk, hd, by simp only [e1, e2], rfl, ?_⟩
      rcases asks_two D with ⟨_, h2⟩ | h2
      · simp only [h2, hd]
      · omega
    · rename_i h1; exact absurd h h1
  · rename_i h0; exact absurd h h0
theorem Sync_two {D : Dv} (hk : DOk D) (hd : D.d = false) : (dv_Sync D).2 = 0 ∨ (dv_Sync D).2 = 9 := by
  unfold dv_Sync
  rw [if_pos ((open_iff D).2 ⟨hk, hd⟩)]
  unfold dv_sync
  rcases asks_two D with ⟨h, _⟩ | h
  · rw [if_pos h]; exact .inl rfl
  · rw [if_neg (by omega)]; exact .inr h
/-- Behind a crash. -/
theorem cr_go_len (keep : List Int) : ∀ (ws : List S60) (i : Nat) (b : List ByteArray), (cr_go keep i ws b).length = b.length
  | [], _, _ => rfl
  | x :: ws, i, b => by rw [cr_go, cr_go_len keep ws, List.length_set]
theorem cr_go_size (keep : List Int) : ∀ (ws : List S60) (i : Nat) (b : List ByteArray), (∀ x ∈ ws, 0 ≤ x.f0 ∧ x.f0 < (b.length : Int) ∧ x.f1.size = 64) → (∀ s ∈ b, s.size = 64) → ∀ s ∈ cr_go keep i ws b, s.size = 64
  | [], _, _, _, hb => hb
  | x :: ws, i, b, hw, hb => by
    rw [cr_go]
    have hx := hw x (List.mem_cons_self ..)
    refine cr_go_size keep ws (i + 1) _ (fun y hy => by rw [List.length_set]; exact hw y (List.mem_cons_of_mem _ hy)) (fun s hs => ?_)
    rcases List.mem_or_eq_of_mem_set hs with h | h
    · exact hb s h
    · rw [h]
      refine cr_mix_size hx.2.2 (hb _ ?_) (cr_n_le keep i)
      rw [List.getD_eq_getElem?_getD, List.getElem?_eq_getElem (by omega)]
      exact List.getElem_mem _
theorem Crash_eq {D : Dv} (h : DOk D) (keep : List Int) : dv_Crash D keep = (⟨cr_go keep 0 D.w D.b, [], -1, false⟩, 0) := if_pos ((dok_iff D).2 h)
theorem Crash_ok {D : Dv} (h : DOk D) (keep : List Int) : DOk ⟨cr_go keep 0 D.w D.b, [], -1, false⟩ :=
  ⟨by simp only [cr_go_len]; exact h.b, by simp, by simp, cr_go_size keep D.w 0 D.b h.x h.s, by simp⟩
theorem cr_go_other (keep : List Int) (n : Nat) : ∀ (ws : List S60) (i : Nat) (b : List ByteArray), (∀ x ∈ ws, x.f0.toNat ≠ n) → (cr_go keep i ws b).getD n ByteArray.empty = b.getD n ByteArray.empty
  | [], _, _, _ => rfl
  | x :: ws, i, b, hw => by
    rw [cr_go, cr_go_other keep n ws (i + 1) _ (fun y hy => hw y (List.mem_cons_of_mem _ hy)), List.getD_eq_getElem?_getD, List.getElem?_set_ne (hw x (List.mem_cons_self ..)), ← List.getD_eq_getElem?_getD]
theorem has_nil {D : Dv} (h : D.w = []) (a : Int) : dv_has D a = D.b.getD a.toNat ByteArray.empty := by rw [dv_has_F, h]; rfl
theorem Read_eq {D : Dv} (hk : DOk D) (hd : D.d = false) {a : Int} (h0 : 0 ≤ a) (h1 : a < (D.b.length : Int)) : dv_Read D a = (dv_has D a, 0) := by
  unfold dv_Read dv_read dv_there
  rw [if_pos ((open_iff D).2 ⟨hk, hd⟩), decide_eq_true h0, decide_eq_true h1]
  rfl
theorem Read_yes {D : Dv} {a : Int} (h : (dv_Read D a).2 = 0) : DOk D ∧ D.d = false ∧ 0 ≤ a ∧ a < (D.b.length : Int) := by
  unfold dv_Read at h
  split at h
  · rename_i h0
    obtain ⟨hk, hd⟩ := (open_iff D).1 h0
    unfold dv_read dv_there at h
    split at h
    · rename_i h1
      simp only [Bool.and_eq_true, decide_eq_true_eq] at h1
      exact ⟨hk, hd, h1.1, h1.2⟩
    · cases h
  · rename_i h0; exact absurd h h0
end Go.Proofs.YthlnjbaichkipaaDoor.XR
