/- For all tokens within the bound: they are right or not, and have the text that the document says, or none. -/
import Derived.Test.YtcblmfcgjemgkaaDoorUScanWrites
import Derived.Test.YtcblmfcgjemgkaaDoorQScanT
import Derived.Test.YtcblmfcgjemgkaaDoorQScanL
set_option linter.unusedVariables false
set_option linter.unusedSimpArgs false
namespace Go.Proofs.YtcblmfcgjemgkaaDoor.XS
open Go.RowKit Go.Proofs.YtcblmfcgjemgkaaDoorW.PrintWords Go.Proofs.YtcblmfcgjemgkaaDoorW.PrintLast Go.Proofs.YtcblmfcgjemgkaaDoorW.PrintMore
theorem pure_ScanWrites : bellmanlaw10_ScanWrites.PureU := by
  intro l _ hb
  obtain ⟨b1, b2, b3, b4, b5, b6⟩ := bulk_facts (l := l) (by omega)
  have hW := Write_f (l := l) (by omega) (fun t ht => by have := b2 t ht; omega) b6
  have hR := rWrite_f (l := l) b1 b2 b3 b4 b6
  have hC := Check_f (l := l) (by omega) (fun t ht => by have := b2 t ht; omega)
  have hD := rCheck_f (l := l) b1 b2 b3
  refine Ev.rounds ?_
  unfold bellmanlaw10_ScanWrites.f
  refine Ev.bind hW (f := fun k bt287 => _) ?_
  refine Ev.bind hR (f := fun k bt289 => _) ?_
  refine Ev.bind scan_lives (f := fun k t291 => _) ?_
  simp only [if_true]
  refine Ev.bind hC (f := fun k t292 => _) ?_
  refine Ev.bind hD (f := fun k t293 => _) ?_
  simp only [beq_self_eq_true]
  exact Ev.now _
end Go.Proofs.YtcblmfcgjemgkaaDoor.XS
namespace Go.Proofs.YtcblmfcgjemgkaaDoor.Pure
theorem ScanWrites : XS.bellmanlaw10_ScanWrites.PureU := XS.pure_ScanWrites
end Go.Proofs.YtcblmfcgjemgkaaDoor.Pure
