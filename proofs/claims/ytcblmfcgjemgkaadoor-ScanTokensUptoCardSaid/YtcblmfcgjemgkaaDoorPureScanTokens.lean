/- For every text and every word within the bound: the text has the tokens, and the word the names, that the document says, or none. -/
import Derived.Test.YtcblmfcgjemgkaaDoorUScanTokens
import Derived.Test.YtcblmfcgjemgkaaDoorQScanR
import Derived.Test.YtcblmfcgjemgkaaDoorQScanS
import Derived.Test.YtcblmfcgjemgkaaDoorQScanL
set_option linter.unusedVariables false
set_option linter.unusedSimpArgs false
namespace Go.Proofs.YtcblmfcgjemgkaaDoor.XS
open Go.RowKit Go.Proofs.YtcblmfcgjemgkaaDoorW.PrintWords Go.Proofs.YtcblmfcgjemgkaaDoorW.PrintLast Go.Proofs.YtcblmfcgjemgkaaDoorW.PrintMore
theorem pure_ScanTokens : bellmanlaw10_ScanTokens.PureU := by
  intro s w hs
  refine Ev.rounds ?_
  unfold bellmanlaw10_ScanTokens.f
  refine Ev.bind (Tokens_f s) (f := fun k bt259 => _) ?_
  refine Ev.bind (rTokens_f s (by omega)) (f := fun k bt263 => _) ?_
  refine Ev.bind (Path_f (s := w) (by omega)) (f := fun k bt267 => _) ?_
  refine Ev.bind (rPath_f (s := w) (by omega)) (f := fun k bt271 => _) ?_
  refine Ev.bind scan_lives (f := fun k t275 => _) ?_
  simp only [if_true]
  refine Ev.bind (toks_refl (tokens_small s).1 (tokens_small s).2) (f := fun k t276 => _) ?_
  simp only [if_true]
  refine Ev.bind (texts_refl (pth_small w)) (f := fun k t277 => _) ?_
  simp only [if_true, beq_self_eq_true]
  exact Ev.now _
end Go.Proofs.YtcblmfcgjemgkaaDoor.XS
namespace Go.Proofs.YtcblmfcgjemgkaaDoor.Pure
theorem ScanTokens : XS.bellmanlaw10_ScanTokens.PureU := XS.pure_ScanTokens
end Go.Proofs.YtcblmfcgjemgkaaDoor.Pure
