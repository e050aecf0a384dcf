-- by a program of this session
import Derived.Test.YthlnjbaichkipaaDoorZGIdx
import Derived.Shelf.SlicesE.IndexFunc
set_option linter.unusedVariables false
set_option linter.unusedSimpArgs false
namespace Go.Proofs.YthlnjbaichkipaaDoor
open Go.RowKit Go.Proofs.YthlnjbaichkipaaDoorW.PrintWords Go.Proofs.YthlnjbaichkipaaDoorW.PrintLast Go.Proofs.YthlnjbaichkipaaDoorW.PrintMore Go.Shelf Go.Lib
section
variable {P : Program} {ρ : Ren} {α : Type} [Inhabited α] {d : Kd α} {enc : α → Value}
theorem gi_below_drewN {w w' : World} (h : ∃ q, w' = w.drewN q) : Below w.heap.size w w' := by
  obtain ⟨q, rfl⟩ := h
  exact pw_below_drewN (Below.refl _ _) q
theorem gi_contains_e (L : SlLaysH.n8 P ρ) (hs : d.sz = 1) (hK : ∀ {w x cs}, d.K w x cs → cs = [enc x])
    (p : α → Bool) (g : Nat) (lb : Array Value) (eg : ∀ args w, (callFunc g args).run P w = .ok (.enter g args) w) (A : Option Addr) (c : Nat) (l : List α) (w : World) (hC : d.C w A l.length l) (hp : PredAt P g lb enc p w) :
    Calls P (ρ.f 8) #[.slice A l.length c, .func (.func g) #[] lb] w fun e w' => e = .returned (.bool (l.any p)) ∧ Below w.heap.size w w' := by
  rcases Nat.eq_zero_or_pos l.length with h0 | h0
  · obtain rfl : l = [] := List.eq_nil_of_length_eq_zero h0
    refine (AnyE.slices_ContainsFunc_empty L A c _ w).mono ?_
    rintro e w' ⟨rfl, rfl⟩
    exact ⟨rfl, Below.refl _ _⟩
  · obtain ⟨b, off, rfl, hb, hc⟩ := gi_cells (enc := fun x => [enc x]) hK hC h0 (by omega)
    refine (AnyE.slices_ContainsFunc L enc p g lb eg b off l.length c l w hp (Nat.le_refl _) hC.2.1 (fun j hj => ?_)).mono ?_
    · have h := hc j hj 0 (enc l[j]!) rfl
      rw [hs, Nat.mul_one, Nat.add_zero] at h
      exact h
    · rintro e w' ⟨rfl, hq⟩
      rw [List.take_length]
      exact ⟨rfl, gi_below_drewN hq⟩
end
end Go.Proofs.YthlnjbaichkipaaDoor
