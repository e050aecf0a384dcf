-- by a program of this session
import Derived.Test.YtlpbolkbdcgmnaaQHeapF
import Derived.Test.YtlpbolkbdcgmnaaXD23
set_option linter.unusedVariables false
set_option linter.unusedSimpArgs false
/-! Heaps: a timer is taken out. -/
namespace Go.Proofs.Ytlpbolkbdcgmnaa.XD
open Go.RowKit Go.Proofs.YtlpbolkbdcgmnaaW.PrintWords Go.Proofs.YtlpbolkbdcgmnaaW.PrintLast Go.Proofs.YtlpbolkbdcgmnaaW.PrintMore
theorem cancel_ev (l : List S29) (h : HRight l) (seq : Int) (i : Nat) (hi : hp_find seq l = (i : Int)) : Ev (fun k => heap_Cancel.f k l seq) (heap_three (Hp.take_ z29 tm_lt l i) (Hp.g z29 l i) 0) := by
  unfold heap_Cancel.f heap_fit
  refine Ev.congr (fun k => if_pos h.fit) (Ev.bind (check_ev l h.fit) ?_)
  rw [hchk_yes h, hi]
  simp only [if_neg (show ¬ (i : Int) < 0 by omega), Int.toNat_natCast, if_true]
  exact Ev.now _
theorem cancel_none (l : List S29) (h : HRight l) (seq : Int) (hi : hp_find seq l = -1) : Ev (fun k => heap_Cancel.f k l seq) (heap_three l z29 3) := by
  unfold heap_Cancel.f heap_fit
  refine Ev.congr (fun k => if_pos h.fit) (Ev.bind (check_ev l h.fit) ?_)
  rw [hchk_yes h, hi]
  exact Ev.now _
end Go.Proofs.Ytlpbolkbdcgmnaa.XD
