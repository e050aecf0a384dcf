-- by a program of this session
import Derived.Test.YtcblmfcgjemgkaaDoorZXS0
import Derived.Test.YtcblmfcgjemgkaaDoorZGA
set_option linter.unusedVariables false
set_option linter.unusedSimpArgs false
namespace Go.Proofs.YtcblmfcgjemgkaaDoor.XS
open Go.RowKit Go.Proofs.YtcblmfcgjemgkaaDoorW.PrintWords Go.Proofs.YtcblmfcgjemgkaaDoorW.PrintLast Go.Proofs.YtcblmfcgjemgkaaDoorW.PrintMore
structure GM (w : World) : Prop where
  out : ∃ m, w.cell? ⟨0, 0, none⟩ = some (.int .i64 m)
theorem GM_drewN {w : World} (h : GM w) (n : Nat) : GM (w.drewN n) := ⟨h.out⟩
theorem GM_drew {w : World} (h : GM w) : GM w.drew := ⟨h.out⟩
theorem GM_below {w w' : World} (h : GM w) (hb : Below w.heap.size w w') : GM w' := by
  obtain ⟨m, hm⟩ := h.out
  have hl := World.block_lt_of_cell? w _ hm
  refine ⟨m, ?_⟩
  rw [← hm]
  simp only [World.cell?]
  rw [hb.block _ hl]
theorem sc_reps {R : ByteArray → List Value → Prop} (hR : ∀ x, R x [.string x]) (l : List ByteArray) : Reps R 1 l (l.map Value.string) := by
  refine ⟨by simp, fun j p hj => ?_⟩
  have e : ((l.map Value.string).drop (j * 1)).take 1 = [.string p] := by
    rw [Nat.mul_one, List.take_one, List.head?_drop, List.getElem?_map, hj]
    rfl
  rw [e]
  exact hR p
end Go.Proofs.YtcblmfcgjemgkaaDoor.XS
