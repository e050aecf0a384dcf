-- by a program of this session
import Derived.Test.YthlnjbaichkipaaDoorZXR6
import Derived.Test.YthlnjbaichkipaaDoorZXR5
set_option linter.unusedVariables false
set_option linter.unusedSimpArgs false
namespace Go.Proofs.YthlnjbaichkipaaDoor.XR
open Go.RowKit Go.Proofs.YthlnjbaichkipaaDoorW.PrintWords Go.Proofs.YthlnjbaichkipaaDoorW.PrintLast Go.Proofs.YthlnjbaichkipaaDoorW.PrintMore
theorem dv_wrap (i : Nat) (h : i ≤ 9000000000000000000) : wrap64 ((i : Int) + 1) = ((i + 1 : Nat) : Int) := by unfold wrap64; omega
def hasF (a : Int) (s : ByteArray) (l : List S60) : ByteArray := l.foldl (fun s x => if x.f0 = a then x.f1 else s) s
theorem hasF_rev (a : Int) (s : ByteArray) (l : List S60) : hasF a s l = match l.reverse.find? (fun x => x.f0 == a) with | some x => x.f1 | none => s := by
  unfold hasF
  induction l generalizing s with
  | nil => rfl
  | cons x l ih =>
    rw [List.foldl_cons, ih, List.reverse_cons, List.find?_append]
    cases h : List.find? (fun x => x.f0 == a) l.reverse with
    | some y => simp
    | none =>
      by_cases c : x.f0 = a
      · simp [c]
      · simp [c]
theorem dv_has_F (D : Dv) (a : Int) : dv_has D a = hasF a (D.b.getD a.toNat ByteArray.empty) D.w := by
  rw [hasF_rev]; rfl
theorem dv_i64 {n : Int} (h : (Lit.int .i64 n).wf = true) : -9223372036854775808 ≤ n ∧ n ≤ 9223372036854775807 := by
  simp [Lit.wf, IntKind.min, IntKind.max, IntKind.signed, IntKind.bits] at h
  omega
theorem len_sum {α : Type} (f : α → Nat) (hf : ∀ x, 1 ≤ f x) : ∀ l : List α, l.length ≤ (l.map f).sum
  | [] => Nat.le_refl _
  | x :: l => by
    have := len_sum f hf l
    have := hf x
    simp only [List.length_cons, List.map_cons, List.sum_cons]
    omega
structure DOk (D : Dv) : Prop where
  b : D.b.length ≤ 4096
  w : D.w.length ≤ 4096
  f : -1 ≤ D.f
  s : ∀ s ∈ D.b, s.size = 64
  x : ∀ x ∈ D.w, 0 ≤ x.f0 ∧ x.f0 < (D.b.length : Int) ∧ x.f1.size = 64
theorem dok_iff (D : Dv) : dv_check D = 0 ↔ DOk D := by
  unfold dv_check
  constructor
  · intro h
    split at h
    · rename_i h2
      unfold dv_ok dv_okw at h2
      simp only [Bool.and_eq_true, decide_eq_true_eq, List.all_eq_true, beq_iff_eq] at h2
      exact ⟨h2.1, h2.2.1, h2.2.2.1, h2.2.2.2.1, h2.2.2.2.2⟩
    · cases h
  · intro h
    rw [if_pos]
    unfold dv_ok dv_okw
    simp only [Bool.and_eq_true, decide_eq_true_eq, List.all_eq_true, beq_iff_eq]
    exact ⟨h.b, h.w, h.f, h.s, h.x⟩
theorem DOk.fit {D : Dv} (h : DOk D) (hf : D.f ≤ 9223372036854775807) : dv_fit D := ⟨by have := h.b; omega, by have := h.w; omega, hf⟩
theorem open_iff (D : Dv) : dv_open D = 0 ↔ DOk D ∧ D.d = false := by
  unfold dv_open
  constructor
  · intro h
    split at h
    · rename_i h1
      refine ⟨(dok_iff D).1 h1, ?_⟩
      split at h
      · cases h
      · rename_i h2; simpa using h2
    · rename_i h1; exact absurd h h1
  · rintro ⟨h1, h2⟩
    rw [if_pos ((dok_iff D).2 h1), h2]
    rfl
end Go.Proofs.YthlnjbaichkipaaDoor.XR
