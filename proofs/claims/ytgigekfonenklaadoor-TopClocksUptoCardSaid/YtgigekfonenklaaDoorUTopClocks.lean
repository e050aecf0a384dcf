-- by px.py, a program of this session
import Derived.Test.YtgigekfonenklaaDoorXC15
set_option linter.unusedVariables false
namespace Go.Proofs.YtgigekfonenklaaDoor.XC
open Go.RowKit Go.Proofs.YtgigekfonenklaaDoorW.PrintWords Go.Proofs.YtgigekfonenklaaDoorW.PrintLast Go.Proofs.YtgigekfonenklaaDoorW.PrintMore
structure S23 where
  f0 : Int
  f1 : Int
  f2 : Int
  f3 : Int
def k23 : Kd S23 := Kd.iso (Kd.pair (Kd.int .i64) (Kd.pair (Kd.int .i64) (Kd.pair (Kd.int .i64) ((Kd.int .i64))))) (fun x : S23 => (x.f0, x.f1, x.f2, x.f3))
theorem k23_open {w : World} {x : S23} {cs : List Value} (h : k23.K w x cs) : cs = [.int .i64 x.f0, .int .i64 x.f1, .int .i64 x.f2, .int .i64 x.f3] := by
  obtain ⟨_, _, rfl, rfl, ⟨_, _, rfl, rfl, ⟨_, _, rfl, rfl, rfl⟩⟩⟩ := h
  exact rfl
structure S25 where
  f0 : Int
  f1 : Int
  f2 : S23
  f3 : S23
def k25 : Kd S25 := Kd.iso (Kd.pair (Kd.int .i64) (Kd.pair (Kd.int .i64) (Kd.pair k23 (k23)))) (fun x : S25 => (x.f0, x.f1, x.f2, x.f3))
theorem k25_open {w : World} {x : S25} {cs : List Value} (h : k25.K w x cs) : cs = [.int .i64 x.f0, .int .i64 x.f1, .int .i64 x.f2.f0, .int .i64 x.f2.f1, .int .i64 x.f2.f2, .int .i64 x.f2.f3, .int .i64 x.f3.f0, .int .i64 x.f3.f1, .int .i64 x.f3.f2, .int .i64 x.f3.f3] := by
  obtain ⟨_, _, rfl, rfl, ⟨_, _, rfl, rfl, ⟨_, _, rfl, ⟨_, _, rfl, rfl, ⟨_, _, rfl, rfl, ⟨_, _, rfl, rfl, rfl⟩⟩⟩, ⟨_, _, rfl, rfl, ⟨_, _, rfl, rfl, ⟨_, _, rfl, rfl, rfl⟩⟩⟩⟩⟩⟩ := h
  exact rfl
/-- THE ONE PURE STATEMENT of bellmantop_TopClocks. -/
def bellmantop_TopClocks.PureU : Prop := ∀ (a0 : S25) (a1 : Int), ((Lit.int .i64 a0.f0).wf = true ∧ ((Lit.int .i64 a0.f1).wf = true ∧ (((Lit.int .i64 a0.f2.f0).wf = true ∧ ((Lit.int .i64 a0.f2.f1).wf = true ∧ ((Lit.int .i64 a0.f2.f2).wf = true ∧ (Lit.int .i64 a0.f2.f3).wf = true))) ∧ ((Lit.int .i64 a0.f3.f0).wf = true ∧ ((Lit.int .i64 a0.f3.f1).wf = true ∧ ((Lit.int .i64 a0.f3.f2).wf = true ∧ (Lit.int .i64 a0.f3.f3).wf = true)))))) → (Lit.int .i64 a1).wf = true → ((1 + (1 + (((1 + (1 + (1 + 1))) + 1) + ((1 + (1 + (1 + 1))) + 1)))) + 1) + 1 ≤ 1048576 → ∃ k, bellmantop_TopClocks.f k a0.f0 a0.f1 a0.f2.f0 a0.f2.f1 a0.f2.f2 a0.f2.f3 a0.f3.f0 a0.f3.f1 a0.f3.f2 a0.f3.f3 a1 = some true
end Go.Proofs.YtgigekfonenklaaDoor.XC
