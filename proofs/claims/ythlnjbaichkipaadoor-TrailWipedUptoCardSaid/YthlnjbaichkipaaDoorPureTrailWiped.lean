/- For every device and region within the bound: behind a wipe the region has no records, and wiped again it is the same device. -/
import Derived.Test.YthlnjbaichkipaaDoorUTrailWiped
import Derived.Test.YthlnjbaichkipaaDoorQTrlW
import Derived.Test.YthlnjbaichkipaaDoorQTrlO
import Derived.Test.YthlnjbaichkipaaDoorQTrlL
set_option linter.unusedVariables false
set_option linter.unusedSimpArgs false
namespace Go.Proofs.YthlnjbaichkipaaDoor.XR
open Go.RowKit Go.Proofs.YthlnjbaichkipaaDoorW.PrintWords Go.Proofs.YthlnjbaichkipaaDoorW.PrintLast Go.Proofs.YthlnjbaichkipaaDoorW.PrintMore
theorem pure_TrailWiped : bellmanlaw04_TrailWiped.PureU := by
  intro a f m hw hf hm hb
  obtain ⟨b, w, fu, d⟩ := a
  simp only at hw hb ⊢
  have hfit : dv_fit ⟨b, w, fu, d⟩ := fit_of (by omega) (by omega) hw.2.2.1
  refine Ev.rounds ?_
  unfold bellmanlaw04_TrailWiped.f
  rcases hE : tr_Wipe ⟨b, w, fu, d⟩ f m with ⟨E, why⟩
  have h1 : trail_Wipe.f b w fu d f m = some (E.b, E.w, E.f, E.d, why) := by
    have := Wipe_f_eq ⟨b, w, fu, d⟩ hfit f m
    rw [hE] at this
    exact this
  rw [trail_lives, h1]
  simp only [Option.bind_some, if_true]
  by_cases c : why = 0
  · have hwd := wiped (D := ⟨b, w, fu, d⟩) (f := f) (m := m) hfit (by rw [hE]; exact c)
    rw [hE] at hwd
    obtain ⟨w1, w2, w3, w4⟩ := hwd
    simp only at w1 w2 w3 w4
    have h2 : trail_Read.f E.b E.w E.f E.d f m = some ([], 0, 0) := (Read_f_eq E w1 f m).trans w3
    have h3 : trail_Wipe.f E.b E.w E.f E.d f m = some (E.b, E.w, E.f, E.d, 0) := by
      have := Wipe_f_eq E w1 f m
      rw [w4] at this
      exact this
    simp only [if_pos c, h2, h3, Option.bind_some, if_true, List.length_nil]
    have ho := dev_one E.b E.w E.f E.d (by have := w2.b; omega) (by have := w2.w; omega)
    exact Ev.bind ho (f := fun _ t => some t) (Ev.now _)
  · simp only [if_neg c]
    exact Ev.now _
end Go.Proofs.YthlnjbaichkipaaDoor.XR
namespace Go.Proofs.YthlnjbaichkipaaDoor.Pure
theorem TrailWiped : XR.bellmanlaw04_TrailWiped.PureU := XR.pure_TrailWiped
end Go.Proofs.YthlnjbaichkipaaDoor.Pure
