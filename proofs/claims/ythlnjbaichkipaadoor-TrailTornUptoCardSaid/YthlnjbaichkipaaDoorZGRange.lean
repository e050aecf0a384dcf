-- by a program of this session
import Derived.Test.YthlnjbaichkipaaDoorZGTrow
import Derived.RangeFuncNested
import Derived.RangeFuncCalls
import Derived.RangeFuncLeaves
import Derived.OwnWalkIn
set_option linter.unusedVariables false
set_option linter.unusedSimpArgs false
namespace Go.Proofs.YthlnjbaichkipaaDoor
open Go.RowKit
def byEnd (Q : Exit → Act → World → Prop) : Exit → Act → World → Prop
  | .normal, a, w => Q .normal a w
  | _, _, _ => False
theorem byEnd_normal {Q : Exit → Act → World → Prop} {a : Act} {w : World} (h : Q .normal a w) : byEnd Q .normal a w := h
theorem wp_byEnd {P : Program} {c : Code} {Q : Exit → Act → World → Prop} {a : Act} {w : World} (h : c.wp P (byEnd Q) a w) : c.wp P Q a w :=
  wp_mono h (fun e a w h => by cases e <;> first | exact h | exact h.elim)
end Go.Proofs.YthlnjbaichkipaaDoor
