-- by a program of this session
import Derived.Test.YtcblmfcgjemgkaaDoorQScanC
import Derived.Test.YtcblmfcgjemgkaaDoorXS15
import Derived.Test.YtcblmfcgjemgkaaDoorXS9
set_option linter.unusedVariables false
set_option linter.unusedSimpArgs false
/-! Lists of tokens are themselves. -/
namespace Go.Proofs.YtcblmfcgjemgkaaDoor.XS
open Go.RowKit Go.Proofs.YtcblmfcgjemgkaaDoorW.PrintWords Go.Proofs.YtcblmfcgjemgkaaDoorW.PrintLast Go.Proofs.YtcblmfcgjemgkaaDoorW.PrintMore
theorem texts_loop (l : List ByteArray) (hl : l.length < 4611686018427387904) : ∀ (d i : Nat), i + d = l.length → Ev (fun k => bellmanref01_SameTexts.l0 k l l (l.length : Int) (i : Int)) true
  | 0, i, h => Ev.step (f := fun _ => some true) (fun k => by rw [bellmanref01_SameTexts.l0, if_neg (by omega)]) (Ev.now _)
  | d + 1, i, h => Ev.step (f := fun k => bellmanref01_SameTexts.l0 k l l (l.length : Int) ((i + 1 : Nat) : Int)) (fun k => by rw [bellmanref01_SameTexts.l0, if_pos (by omega), if_pos (by omega), if_pos (by omega), if_pos (by omega), if_pos rfl, w_one (by omega)]) (texts_loop l hl d (i + 1) (by omega))
theorem texts_refl {l : List ByteArray} (hl : l.length < 4611686018427387904) : Ev (fun k => bellmanref01_SameTexts.f k l l) true := by
  unfold bellmanref01_SameTexts.f
  simp only [if_true]
  exact texts_loop l hl l.length 0 (by omega)
theorem toks_loop (l : List S40) (hl : l.length < 4611686018427387904) (hp : ∀ t ∈ l, t.f2.length < 4611686018427387904) : ∀ (d i : Nat), i + d = l.length → Ev (fun k => bellmanref10_Same.l0 k l l (l.length : Int) (i : Int)) true
  | 0, i, h => Ev.step (f := fun _ => some true) (fun k => by rw [bellmanref10_Same.l0, if_neg (by omega)]) (Ev.now _)
  | d + 1, i, h => by
    have hi : i < l.length := by omega
    refine Ev.step (f := fun k => (bellmanref01_SameTexts.f k (l[i]).f2 (l[i]).f2).bind fun t => if t = true then bellmanref10_Same.l0 k l l (l.length : Int) ((i + 1 : Nat) : Int) else some false) (fun k => ?_) ?_
    · rw [bellmanref10_Same.l0, if_pos (by omega), if_pos (by omega), if_pos (by omega), if_pos (by omega), if_pos rfl, if_pos rfl, w_one (by omega), rd_tok hi]
    · refine Ev.bind (texts_refl (hp _ (List.getElem_mem hi))) (f := fun k t => if t = true then bellmanref10_Same.l0 k l l (l.length : Int) ((i + 1 : Nat) : Int) else some false) ?_
      simp only [if_true]
      exact toks_loop l hl hp d (i + 1) (by omega)
theorem toks_refl {l : List S40} (hl : l.length < 4611686018427387904) (hp : ∀ t ∈ l, t.f2.length < 4611686018427387904) : Ev (fun k => bellmanref10_Same.f k l l) true := by
  unfold bellmanref10_Same.f
  simp only [if_true]
  exact toks_loop l hl hp l.length 0 (by omega)
end Go.Proofs.YtcblmfcgjemgkaaDoor.XS
