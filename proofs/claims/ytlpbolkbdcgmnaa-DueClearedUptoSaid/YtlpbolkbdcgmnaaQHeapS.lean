-- by a program of this session
import Derived.Test.YtlpbolkbdcgmnaaQHeapP
set_option linter.unusedVariables false
set_option linter.unusedSimpArgs false
/-! Sorting by insertion, plain. -/
namespace Go.Proofs.Ytlpbolkbdcgmnaa.Hp
variable {α : Type} (lt : α → α → Bool)
def ins (t : α) : List α → List α
  | [] => [t]
  | x :: xs => if lt x t = true then x :: ins t xs else t :: x :: xs
def srtFrom (out : List α) (l : List α) : List α := l.foldl (fun o t => ins lt t o) out
def srt (l : List α) : List α := srtFrom lt [] l
def Up (l : List α) : Prop := l.Pairwise (fun a b => lt b a = false)
variable {lt}
theorem ins_perm (t : α) : ∀ xs : List α, (ins lt t xs).Perm (t :: xs)
  | [] => List.Perm.refl _
  | x :: xs => by
    unfold ins
    by_cases c : lt x t = true
    · rw [if_pos c]; exact ((ins_perm t xs).cons x).trans (List.Perm.swap _ _ _)
    · rw [if_neg c]
theorem ins_up (S : Swo lt) (t : α) : ∀ xs : List α, Up lt xs → Up lt (ins lt t xs)
  | [], _ => List.pairwise_singleton _ _
  | x :: xs, h => by
    unfold Up at h
    rw [List.pairwise_cons] at h
    unfold ins
    by_cases c : lt x t = true
    · rw [if_pos c]
      refine List.pairwise_cons.mpr ⟨fun y hy => ?_, ins_up S t xs h.2⟩
      rcases List.mem_cons.mp ((ins_perm t xs).mem_iff.mp hy) with rfl | hy
      · exact S.asym c
      · exact h.1 y hy
    · rw [if_neg c]
      have c' : lt x t = false := by simpa using c
      refine List.pairwise_cons.mpr ⟨fun y hy => ?_, List.pairwise_cons.mpr h⟩
      rcases List.mem_cons.mp hy with rfl | hy
      · exact c'
      · exact S.le_tr c' (h.1 y hy)
theorem srtFrom_perm : ∀ (l out : List α), (srtFrom lt out l).Perm (out ++ l)
  | [], out => by rw [List.append_nil]; exact List.Perm.refl _
  | t :: l, out => by
    show (srtFrom lt (ins lt t out) l).Perm _
    refine (srtFrom_perm l (ins lt t out)).trans ?_
    refine ((ins_perm t out).append_right l).trans ?_
    exact List.perm_middle.symm
theorem srtFrom_up (S : Swo lt) : ∀ (l out : List α), Up lt out → Up lt (srtFrom lt out l)
  | [], _, h => h
  | t :: l, out, h => srtFrom_up S l (ins lt t out) (ins_up S t out h)
theorem srt_perm (l : List α) : (srt lt l).Perm l := srtFrom_perm l []
theorem srt_up (S : Swo lt) (l : List α) : Up lt (srt lt l) := srtFrom_up S l [] List.Pairwise.nil
/-- No two are level. -/
def Apart (lt : α → α → Bool) (l : List α) : Prop := ∀ a ∈ l, ∀ b ∈ l, lt a b = false → lt b a = false → a = b
theorem Apart.perm {l k : List α} (h : Apart lt l) (p : k.Perm l) : Apart lt k := fun a ha b hb => h a (p.mem_iff.mp ha) b (p.mem_iff.mp hb)
theorem up_eq {l k : List α} (h : Apart lt l) (hl : Up lt l) (hk : Up lt k) (p : k.Perm l) : k = l :=
  List.Perm.eq_of_pairwise (le := fun a b => lt b a = false) (fun a b ha hb h1 h2 => h a (p.mem_iff.mp ha) b hb h2 h1) hk hl p
theorem srt_eq (S : Swo lt) {l k : List α} (h : Apart lt l) (p : k.Perm l) : srt lt k = srt lt l :=
  up_eq (h.perm (srt_perm l)) (srt_up S l) (srt_up S k) (((srt_perm k).trans p).trans (srt_perm l).symm)
theorem srt_of (S : Swo lt) {l k : List α} (h : Apart lt l) (p : k.Perm l) (hk : Up lt k) : srt lt l = k :=
  (up_eq (h.perm (srt_perm l)) (srt_up S l) hk (p.trans (srt_perm l).symm)).symm
theorem srt_nil : srt lt ([] : List α) = [] := rfl
end Go.Proofs.Ytlpbolkbdcgmnaa.Hp
