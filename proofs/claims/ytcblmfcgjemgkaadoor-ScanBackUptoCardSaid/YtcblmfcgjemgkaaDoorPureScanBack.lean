/- For all tokens and every text within the bound: written tokens are the text's; a text's tokens are right, and written are a text with the same ones, no longer. -/
import Derived.Test.YtcblmfcgjemgkaaDoorUScanBack
import Derived.Test.YtcblmfcgjemgkaaDoorQScanK
import Derived.Test.YtcblmfcgjemgkaaDoorQScanS
import Derived.Test.YtcblmfcgjemgkaaDoorQScanL
set_option linter.unusedVariables false
set_option linter.unusedSimpArgs false
namespace Go.Proofs.YtcblmfcgjemgkaaDoor.XS
open Go.RowKit Go.Proofs.YtcblmfcgjemgkaaDoorW.PrintWords Go.Proofs.YtcblmfcgjemgkaaDoorW.PrintLast Go.Proofs.YtcblmfcgjemgkaaDoorW.PrintMore
theorem back_j0 (s : ByteArray) : Ev (fun k => bellmanlaw10_ScanBack.j0 k s) true := by
  refine Ev.step (fun k => by rw [bellmanlaw10_ScanBack.j0]) (Ev.bind (Tokens_f s) (f := fun k bt302 => _) ?_)
  by_cases c : (tokensM s).2 = 0
  · obtain ⟨m, hm⟩ : ∃ m, tokensM s = (m, 0) := ⟨(tokensM s).1, by rw [← c]⟩
    have hsm := tokens_small s
    rw [hm] at hsm ⊢
    obtain ⟨h1, h2, h3⟩ := tokens_read hm
    have hz : (sc_text m).length ≤ 1024 := by omega
    have hWm : writeM m = (ofL (sc_text m), 0) := by
      unfold writeM
      rw [if_pos h1, if_neg (by omega)]
    have hW := Write_f (l := m) hsm.1 (fun t ht => by have := check_texts h1 t ht; omega) (by omega)
    rw [hWm] at hW
    have hC := Check_f (l := m) hsm.1 (fun t ht => by have := check_texts h1 t ht; omega)
    rw [if_pos h1] at hC
    have hT := Tokens_f (ofL (sc_text m))
    rw [tokens_text h1 hz] at hT
    simp only [if_true]
    refine Ev.bind hW (f := fun k bt306 => _) ?_
    refine Ev.bind hT (f := fun k bt308 => _) ?_
    refine Ev.bind hC (f := fun k t312 => _) ?_
    simp only [if_true]
    simp only [if_pos (show ((ofL (sc_text m)).size : Int) ≤ (s.size : Int) by rw [ofL_size]; omega)]
    refine Ev.bind (toks_refl hsm.1 hsm.2) (f := fun k t313 => some t313) ?_
    exact Ev.now _
  · have hn := (tokens_cases s).resolve_left c
    simp only [if_neg c, hn]
    exact Ev.now _
theorem pure_ScanBack : bellmanlaw10_ScanBack.PureU := by
  intro l s _ hb
  obtain ⟨b1, b2, b3, b4, b5, b6⟩ := bulk_facts (l := l) (by omega)
  have hW := Write_f (l := l) (by omega) (fun t ht => by have := b2 t ht; omega) b6
  refine Ev.rounds ?_
  unfold bellmanlaw10_ScanBack.f
  refine Ev.bind scan_lives (f := fun k t294 => _) ?_
  simp only [if_true]
  refine Ev.bind hW (f := fun k bt295 => _) ?_
  by_cases c : (writeM l).2 = 0
  · have hc : checkM l = true ∧ (sc_text l).length ≤ 1024 ∧ writeM l = (ofL (sc_text l), 0) := by
      unfold writeM at c ⊢
      by_cases d : checkM l = true
      · rw [if_pos d] at c ⊢
        by_cases e : 1024 < (sc_text l).length
        · rw [if_pos e] at c; cases c
        · rw [if_neg e]; exact ⟨d, by omega, rfl⟩
      · rw [if_neg d] at c; cases c
    obtain ⟨h1, h2, h3⟩ := hc
    rw [h3]
    have hT := Tokens_f (ofL (sc_text l))
    rw [tokens_text h1 h2] at hT
    simp only [if_true]
    refine Ev.bind hT (f := fun k bt297 => _) ?_
    simp only [if_true]
    refine Ev.bind (toks_refl (by omega) b5) (f := fun k t301 => _) ?_
    simp only [if_true]
    exact back_j0 s
  · simp only [if_neg c]
    exact back_j0 s
end Go.Proofs.YtcblmfcgjemgkaaDoor.XS
namespace Go.Proofs.YtcblmfcgjemgkaaDoor.Pure
theorem ScanBack : XS.bellmanlaw10_ScanBack.PureU := XS.pure_ScanBack
end Go.Proofs.YtcblmfcgjemgkaaDoor.Pure
