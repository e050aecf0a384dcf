-- by a program of this session
import Derived.Test.YthlnjbaichkipaaDoorQTrlD
import Derived.Test.YthlnjbaichkipaaDoorXR12
set_option linter.unusedVariables false
set_option linter.unusedSimpArgs false
/-! A device is itself. -/
namespace Go.Proofs.YthlnjbaichkipaaDoor.XR
open Go.RowKit Go.Proofs.YthlnjbaichkipaaDoorW.PrintWords Go.Proofs.YthlnjbaichkipaaDoorW.PrintLast Go.Proofs.YthlnjbaichkipaaDoorW.PrintMore
theorem dev_one_l1 (b : List ByteArray) (w : List S60) (f : Int) (d : Bool) (hn : w.length ≤ 9000000000000000000) : ∀ (m i : Nat), i + m = w.length → Ev (fun k => bellmanref03_One.l1 k (w.length : Int) (i : Int) b w f d b w f d) true
  | 0, i, h => by
    refine Ev.step (f := fun _ => some true) (fun k => ?_) (Ev.now _)
    rw [bellmanref03_One.l1, if_neg (by omega)]
  | m + 1, i, h => by
    refine Ev.step (f := fun k => bellmanref03_One.l1 k (w.length : Int) ((i + 1 : Nat) : Int) b w f d b w f d) (fun k => ?_) (dev_one_l1 b w f d hn m (i + 1) (by omega))
    rw [bellmanref03_One.l1, if_pos (by omega), if_pos (by omega), if_pos (by omega), if_pos (by omega), if_neg (by simp), dv_wrap i (by omega)]
theorem dev_one_l0 (b : List ByteArray) (w : List S60) (f : Int) (d : Bool) (hb : b.length ≤ 9000000000000000000) (hn : w.length ≤ 9000000000000000000) : ∀ (m i : Nat), i + m = b.length → Ev (fun k => bellmanref03_One.l0 k (b.length : Int) (i : Int) b w f d b w f d) true
  | 0, i, h => by
    refine Ev.step (f := fun k => bellmanref03_One.l1 k (w.length : Int) 0 b w f d b w f d) (fun k => ?_) (dev_one_l1 b w f d hn w.length 0 (by omega))
    rw [bellmanref03_One.l0, if_neg (by omega)]
  | m + 1, i, h => by
    refine Ev.step (f := fun k => bellmanref03_One.l0 k (b.length : Int) ((i + 1 : Nat) : Int) b w f d b w f d) (fun k => ?_) (dev_one_l0 b w f d hb hn m (i + 1) (by omega))
    rw [bellmanref03_One.l0, if_pos (by omega), if_pos (by omega), if_pos (by omega), if_pos (by omega), if_pos rfl, dv_wrap i (by omega)]
/-- A device is one with itself. -/
theorem dev_one (b : List ByteArray) (w : List S60) (f : Int) (d : Bool) (hb : b.length ≤ 9000000000000000000) (hn : w.length ≤ 9000000000000000000) : Ev (fun k => bellmanref03_One.f k b w f d b w f d) true := by
  refine Ev.congr (f := fun k => bellmanref03_One.j0 k false b w f d b w f d) (fun k => ?_) ?_
  · rw [bellmanref03_One.f, if_pos rfl, if_neg (by simp), if_pos rfl]
    simp
  · refine Ev.step (f := fun k => bellmanref03_One.l0 k (b.length : Int) 0 b w f d b w f d) (fun k => ?_) (dev_one_l0 b w f d hb hn b.length 0 (by omega))
    rw [bellmanref03_One.j0, if_neg (by decide)]
end Go.Proofs.YthlnjbaichkipaaDoor.XR
