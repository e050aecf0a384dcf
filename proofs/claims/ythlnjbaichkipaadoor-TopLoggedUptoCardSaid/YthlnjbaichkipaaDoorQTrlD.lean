-- by a program of this session
import Derived.Test.YthlnjbaichkipaaDoorXR6
import Derived.Test.YthlnjbaichkipaaDoorXR5
set_option linter.unusedVariables false
set_option linter.unusedSimpArgs false
/-! Devices: the plain theory of what the program does to one (the part of QDevP that Trail wants). -/
namespace Go.Proofs.YthlnjbaichkipaaDoor.XR
open Go.RowKit Go.Proofs.YthlnjbaichkipaaDoorW.PrintWords Go.Proofs.YthlnjbaichkipaaDoorW.PrintLast Go.Proofs.YthlnjbaichkipaaDoorW.PrintMore
theorem dv_wrap (i : Nat) (h : i ≤ 9000000000000000000) : wrap64 ((i : Int) + 1) = ((i + 1 : Nat) : Int) := by unfold wrap64; omega
/-- What a block has, from the first wait on. -/
def hasF (a : Int) (s : ByteArray) (l : List S60) : ByteArray := l.foldl (fun s x => if x.f0 = a then x.f1 else s) s
theorem hasF_rev (a : Int) (s : ByteArray) (l : List S60) : hasF a s l = match l.reverse.find? (fun x => x.f0 == a) with | some x => x.f1 | none => s := by
  unfold hasF
  induction l generalizing s with
  | nil => rfl
  | cons x l ih =>
    rw [List.foldl_cons, ih, List.reverse_cons, List.find?_append]
    cases h : List.find? (fun x => x.f0 == a) l.reverse with
    | some y => simp
    | none =>
      by_cases c : x.f0 = a
      · simp [c]
      · simp [c]
theorem dv_has_F (D : Dv) (a : Int) : dv_has D a = hasF a (D.b.getD a.toNat ByteArray.empty) D.w := by
  rw [hasF_rev]; rfl
theorem dv_i64 {n : Int} (h : (Lit.int .i64 n).wf = true) : -9223372036854775808 ≤ n ∧ n ≤ 9223372036854775807 := by
  simp [Lit.wf, IntKind.min, IntKind.max, IntKind.signed, IntKind.bits] at h
  omega
theorem len_sum {α : Type} (f : α → Nat) (hf : ∀ x, 1 ≤ f x) : ∀ l : List α, l.length ≤ (l.map f).sum
  | [] => Nat.le_refl _
  | x :: l => by
    have := len_sum f hf l
    have := hf x
    simp only [List.length_cons, List.map_cons, List.sum_cons]
    omega
/-- A device within the bound has slices that may be cloned. -/
theorem fit_of {b : List ByteArray} {w : List S60} {f : Int} {d : Bool} (hb : (b.map (fun x => (x.size + 1))).sum ≤ 1048576) (hw : (w.map (fun x => ((1 + (x.f1.size + 1)) + 1))).sum ≤ 1048576) (hf : (Lit.int .i64 f).wf = true) : dv_fit ⟨b, w, f, d⟩ := by
  have h1 := len_sum (fun x : ByteArray => x.size + 1) (fun _ => Nat.le_add_left _ _) b
  have h2 := len_sum (fun x : S60 => (1 + (x.f1.size + 1)) + 1) (fun _ => Nat.le_add_left _ _) w
  have h3 := dv_i64 hf
  refine ⟨?_, ?_, h3.2⟩
  · show b.length < _; omega
  · show w.length < _; omega
/-- What a right device is. -/
structure DOk (D : Dv) : Prop where
  b : D.b.length ≤ 4096
  w : D.w.length ≤ 4096
  f : -1 ≤ D.f
  s : ∀ s ∈ D.b, s.size = 64
  x : ∀ x ∈ D.w, 0 ≤ x.f0 ∧ x.f0 < (D.b.length : Int) ∧ x.f1.size = 64
theorem dok_iff (D : Dv) : dv_check D = 0 ↔ DOk D := by
  unfold dv_check
  constructor
  · intro h
    split at h
    · rename_i h2
      unfold dv_ok dv_okw at h2
      simp only [Bool.and_eq_true, decide_eq_true_eq, List.all_eq_true, beq_iff_eq] at h2
      exact ⟨h2.1, h2.2.1, h2.2.2.1, h2.2.2.2.1, h2.2.2.2.2⟩
    · cases h
  · intro h
    rw [if_pos]
    unfold dv_ok dv_okw
    simp only [Bool.and_eq_true, decide_eq_true_eq, List.all_eq_true, beq_iff_eq]
    exact ⟨h.b, h.w, h.f, h.s, h.x⟩
theorem DOk.fit {D : Dv} (h : DOk D) (hf : D.f ≤ 9223372036854775807) : dv_fit D := ⟨by have := h.b; omega, by have := h.w; omega, hf⟩
theorem open_iff (D : Dv) : dv_open D = 0 ↔ DOk D ∧ D.d = false := by
  unfold dv_open
  constructor
  · intro h
    split at h
    · rename_i h1
      refine ⟨(dok_iff D).1 h1, ?_⟩
      split at h
      · cases h
      · rename_i h2; simpa using h2
    · rename_i h1; exact absurd h h1
  · rintro ⟨h1, h2⟩
    rw [if_pos ((dok_iff D).2 h1), h2]
    rfl
/-- What a write, or a sync, asks leaves a right device. -/
theorem asks_eq (D : Dv) : (dv_asks D).1.b = D.b ∧ (dv_asks D).1.w = D.w := by unfold dv_asks; split <;> exact ⟨rfl, rfl⟩
theorem asks_f {D : Dv} (h : -1 ≤ D.f) : -1 ≤ (dv_asks D).1.f ∧ (dv_asks D).1.f ≤ max D.f 0 := by
  unfold dv_asks
  split
  · rename_i h0; exact ⟨h, by simp only; omega⟩
  · simp only
    split <;> omega
theorem asks_ok {D : Dv} (h : DOk D) : DOk (dv_asks D).1 := by
  obtain ⟨e1, e2⟩ := asks_eq D
  have e3 := asks_f h.f
  exact ⟨by rw [e1]; exact h.b, by rw [e2]; exact h.w, e3.1, by rw [e1]; exact h.s, by rw [e1, e2]; exact h.x⟩
theorem asks_two (D : Dv) : (dv_asks D).2 = 0 ∧ (dv_asks D).1.d = D.d ∨ (dv_asks D).2 = 9 := by
  unfold dv_asks
  split
  · exact .inr rfl
  · exact .inl ⟨rfl, rfl⟩
theorem zeros_add (s : ByteArray) (h : s.size ≤ 64) : (s ++ dv_zeros (64 - s.size)).size = 64 := by
  rw [ByteArray.size_append, dv_zeros_size]; omega
/-- A wait more. -/
theorem push_ok {D : Dv} (h : DOk D) {at_ : Int} (ht : dv_there D at_ = true) (hw : ¬ D.w.length = 4096) {s : ByteArray} (hs : s.size = 64) : DOk ⟨D.b, D.w ++ [⟨at_, s⟩], D.f, D.d⟩ := by
  unfold dv_there at ht
  simp only [Bool.and_eq_true, decide_eq_true_eq] at ht
  refine ⟨h.b, ?_, h.f, h.s, fun x hx => ?_⟩
  · have := h.w
    simp only [List.length_append, List.length_cons, List.length_nil]
    omega
  · rcases List.mem_append.1 hx with h1 | h1
    · exact h.x x h1
    · rw [List.mem_singleton] at h1
      subst h1
      exact ⟨ht.1, ht.2, hs⟩
theorem write_ok {D : Dv} (h : DOk D) (at_ : Int) (s : ByteArray) : DOk (dv_write D at_ s).1 := by
  unfold dv_write
  split
  · rename_i ht
    split
    · exact h
    · rename_i hs
      split
      · exact h
      · rename_i hw
        exact asks_ok (push_ok h ht hw (zeros_add s (by omega)))
  · exact h
theorem write_f {D : Dv} (h : -1 ≤ D.f) (at_ : Int) (s : ByteArray) : (dv_write D at_ s).1.f ≤ max D.f 0 := by
  unfold dv_write
  split
  · split
    · simp only; omega
    · split
      · simp only; omega
      · exact (asks_f (D := ⟨D.b, D.w ++ [⟨at_, s ++ dv_zeros (64 - s.size)⟩], D.f, D.d⟩) h).2
  · simp only; omega
end Go.Proofs.YthlnjbaichkipaaDoor.XR
