/- For every two devices and every list of what is kept, within the bound: the crashed device and whether the two are the same are what the definition gives. -/
import Derived.Test.YtedbbpefogcjnaaUBlockCrash
import Derived.Test.YtedbbpefogcjnaaQDevP
import Derived.Test.YtedbbpefogcjnaaQDevL
set_option linter.unusedVariables false
set_option linter.unusedSimpArgs false
namespace Go.Proofs.Ytedbbpefogcjnaa.XB
open Go.RowKit Go.Proofs.YtedbbpefogcjnaaW.PrintWords Go.Proofs.YtedbbpefogcjnaaW.PrintLast Go.Proofs.YtedbbpefogcjnaaW.PrintMore
theorem ref_crash (D : Dv) (h : dv_fit D) (keep : List Int) : Ev (fun k => bellmanref03_Crash.f k D.b D.w D.f D.d keep) (dv_five (dv_Crash D keep)) := by
  refine Ev.bind (dev_chk D) ?_
  unfold dv_Crash dv_five
  by_cases c : dv_check D = 0
  · simp only [if_pos c]
    rw [if_pos ⟨h, dv_check_ok c⟩]
    exact Ev.now _
  · simp only [if_neg c]
    have e : dv_check D = 2 := dok_not (fun hk => c ((dok_iff D).2 hk))
    rw [e]
    exact Ev.now _
theorem pure_BlockCrash : bellmanlaw03_BlockCrash.PureU := by
  rintro ⟨b, w, f, d⟩ ⟨xb, xw, xf, xd⟩ l2 ⟨_, _, hf, _⟩ ⟨_, _, hxf, _⟩ _ hsz
  simp only at hf hxf hsz ⊢
  have h1 : dv_fit ⟨b, w, f, d⟩ := fit_of (by omega) (by omega) hf
  refine Ev.rounds ?_
  have hb : (dv_five (dv_Crash ⟨b, w, f, d⟩ l2)).1.length ≤ 9000000000000000000 ∧ (dv_five (dv_Crash ⟨b, w, f, d⟩ l2)).2.1.length ≤ 9000000000000000000 := by
    unfold dv_Crash dv_five
    have := h1.1
    split
    · simp only [cr_go_len, List.length_nil] at *
      omega
    · simp [dv_zero]
  have ho := dev_one (dv_five (dv_Crash ⟨b, w, f, d⟩ l2)).1 (dv_five (dv_Crash ⟨b, w, f, d⟩ l2)).2.1 (dv_five (dv_Crash ⟨b, w, f, d⟩ l2)).2.2.1 (dv_five (dv_Crash ⟨b, w, f, d⟩ l2)).2.2.2.1 hb.1 hb.2
  have hr := ref_crash ⟨b, w, f, d⟩ h1 l2
  have hs := dev_same ⟨b, w, f, d⟩ ⟨xb, xw, xf, xd⟩
  simp only at hr hs
  unfold bellmanlaw03_BlockCrash.f
  rw [show block_Crash.f b w f d l2 = some (dv_five (dv_Crash ⟨b, w, f, d⟩ l2)) from Crash_f_some ⟨b, w, f, d⟩ h1 l2, show block_Same.f b w f d xb xw xf xd = some (dv_Same ⟨b, w, f, d⟩ ⟨xb, xw, xf, xd⟩) from rfl, dev_lives]
  simp only [Option.bind_some]
  refine Ev.bind hr (Ev.bind hs ?_)
  simp only [if_true]
  refine Ev.bind ho ?_
  simp only [if_true, beq_self_eq_true]
  exact Ev.now _
end Go.Proofs.Ytedbbpefogcjnaa.XB
namespace Go.Proofs.Ytedbbpefogcjnaa.Pure
theorem BlockCrash : XB.bellmanlaw03_BlockCrash.PureU := XB.pure_BlockCrash
end Go.Proofs.Ytedbbpefogcjnaa.Pure
