-- by a program of this session
import Derived.Test.YtbimjpafgiogcaaDoorZXQ0
import Derived.Lib.LaidTab
import Derived.WalkSmall
set_option linter.unusedVariables false
set_option linter.unusedSimpArgs false
namespace Go.Proofs.YtbimjpafgiogcaaDoor.XQ
open Go.RowKit Go.Proofs.YtbimjpafgiogcaaDoorW.PrintWords Go.Proofs.YtbimjpafgiogcaaDoorW.PrintLast Go.Proofs.YtbimjpafgiogcaaDoorW.PrintMore
def bef : List Int := [0, 31, 59, 90, 120, 151, 181, 212, 243, 273, 304, 334, 365]
structure GB (w : World) : Prop where
  out : Lib.TabIs Tryd.prog w "bellman/civil.before" .i64 bef
theorem gBef : Tryd.prog.globalNamed "bellman/civil.before" = some 0 := by kernel_rfl
theorem GB_drewN {w : World} (h : GB w) (n : Nat) : GB (w.drewN n) := ⟨h.out⟩
theorem GB_drew {w : World} (h : GB w) : GB w.drew := ⟨h.out⟩
theorem GB.lt {w : World} (h : GB w) : 0 < w.heap.size := by
  have h1 := h.out
  unfold Lib.TabIs World.var? at h1
  rw [gBef, Option.bind_some] at h1
  cases e : w.heap[0]? with
  | none => rw [e] at h1; cases h1
  | some o => exact blk_lt e
theorem GB_below {w w' : World} (h : GB w) (hb : Below w.heap.size w w') : GB w' := ⟨var?_below hb gBef h.lt h.out⟩
theorem GB.cell {w : World} (h : GB w) {i : Nat} (hi : i < 13) : w.cell? ⟨0, i, none⟩ = some (.int .i64 (bef.getD i 0)) := h.out.cell gBef i hi
end Go.Proofs.YtbimjpafgiogcaaDoor.XQ
