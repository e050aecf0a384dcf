-- by px.py, a program of this session
import Derived.Test.YtedbbpefogcjnaaRows
import Derived.Test.YtedbbpefogcjnaaXB11
import Derived.Test.YtedbbpefogcjnaaUBlockCrash
import Derived.Test.YtedbbpefogcjnaaPureBlockCrash
import Derived.Test.YtedbbpefogcjnaaQDec
import Derived.WalkKit
import Derived.ProofKit
import Derived.OpenShut
import Derived.ShutString
import Derived.ChangeOld
import Derived.Below
import Derived.SizedLaws
import Derived.JoinedCond
namespace Go.Proofs.Ytedbbpefogcjnaa.blockCrash
open Go.ChangeShapes Go.WideShapes Go.ChangeAt Go.RowKit
open Go.ChangeMaps (open_string shut_string)
set_option linter.unusedVariables false
set_option linter.unusedSimpArgs false
theorem own : ownKnob Try.prog.godebug = none := by kernel_rfl
theorem laidOut : laidOutB Try.prog = true := by kernel_rfl
set_option maxRecDepth 100000 in
theorem contract (H : Type) (enc : TypeId × Value → H) (W : World) (base : Nat) (args : Array Value) (ds gs : List (DataW H)) (before : List MemPlace)
    (hval : ∀ (j : Nat) t v, Try.f3.params[j]? = some t → args[j]? = some v → Value.okWide Try.prog W .any base t v)
    (hW : DataW.Whole enc Try.prog Try.f3.params.toList Rows.blockCrashSpec.vars false W args.toList ds gs before) (hk : Rows.uptoSmall H (ds ++ gs) = true) :
    Calls Try.prog 3 args W fun e W' => ∃ v, e = .returned v ∧ Rows.blockCrashSpec.post enc Try.prog Try.f3 false true false false W args v W' := by
  have hW' := hW
  obtain ⟨p, q, hA0, hV, rfl, hfz, hnd⟩ := hW
  have hA : DataW.TrodAll enc Try.prog W 0 (fun _ => true) true Try.f3.params.toList args.toList ds p := hA0
  rw [Try.params3] at hA hval
  obtain ⟨v0, vs0, d0, ds0, p0, q0, hargs, rfl, rfl, h0, r0⟩ := trodAll_cons hA
  obtain ⟨v1, vs1, d1, ds1, p1, q1, rfl, rfl, rfl, h1, r1⟩ := trodAll_cons r0
  obtain ⟨v2, vs2, d2, ds2, p2, q2, rfl, rfl, rfl, h2, r2⟩ := trodAll_cons r1
  obtain ⟨rfl, rfl, rfl⟩ := trodAll_nil r2
  obtain rfl : args = #[v0, v1, v2] := by cases args; simp_all
  obtain ⟨rfl, rfl⟩ := trodVars_none hV
  have k0 := h0
  have lt0 : ∀ x ∈ p0, x.block < W.heap.size := by obtain ⟨m, hm⟩ := k0; exact DataW.trod_lt m _ _ _ hm
  obtain ⟨a0, cs0, rfl, hK0, w0, b0⟩ := Dec.arg_struct Try.underlying25 (Dec.D_iso (fun x : XB.S25 => (x.f0, x.f1, x.f2, x.f3)) (fun p => ⟨p.1, p.2.1, p.2.2.1, p.2.2.2⟩) (fun _ => rfl) (Dec.D_struct Try.underlying25 (by kernel_rfl) (Dec.Fs_cons (Dec.D_slice Try.underlying22 (by kernel_rfl) (Dec.D_string Try.underlying9)) rfl (by kernel_rfl) (by simp; decide) (Dec.Fs_cons (Dec.D_slice Try.underlying23 (by kernel_rfl) (Dec.D_iso (fun x : XB.S39 => (x.f0, x.f1)) (fun p => ⟨p.1, p.2⟩) (fun _ => rfl) (Dec.D_struct Try.underlying39 (by kernel_rfl) (Dec.Fs_cons (Dec.D_int Try.underlying3) rfl (by kernel_rfl) (by simp; decide) (Dec.Fs_one (Dec.D_string Try.underlying9) rfl (by kernel_rfl)))))) rfl (by kernel_rfl) (by simp; decide) (Dec.Fs_cons (Dec.D_int Try.underlying3) rfl (by kernel_rfl) (by simp; decide) (Dec.Fs_one (Dec.D_bool Try.underlying4) rfl (by kernel_rfl))))))) (hval 0 25 v0 rfl rfl) h0
  obtain ⟨A0_0, c0_0, A0_1, c0_1, hcs0, hc0_0, hr0_0, hc0_1, hr0_1⟩ := XB.k25_open hK0
  obtain rfl := Dec.agg_of hcs0
  have bb0 : ((((a0.f0.map (fun x => (x.size + 1))).sum + 1) + (((a0.f1.map (fun x => ((1 + (x.f1.size + 1)) + 1))).sum + 1) + (1 + 1))) + 1) ≤ Rows.uptoBulk d0 := b0
  have k1 := h1
  have lt1 : ∀ x ∈ p1, x.block < W.heap.size := by obtain ⟨m, hm⟩ := k1; exact DataW.trod_lt m _ _ _ hm
  obtain ⟨a1, cs1, rfl, hK1, w1, b1⟩ := Dec.arg_struct Try.underlying25 (Dec.D_iso (fun x : XB.S25 => (x.f0, x.f1, x.f2, x.f3)) (fun p => ⟨p.1, p.2.1, p.2.2.1, p.2.2.2⟩) (fun _ => rfl) (Dec.D_struct Try.underlying25 (by kernel_rfl) (Dec.Fs_cons (Dec.D_slice Try.underlying22 (by kernel_rfl) (Dec.D_string Try.underlying9)) rfl (by kernel_rfl) (by simp; decide) (Dec.Fs_cons (Dec.D_slice Try.underlying23 (by kernel_rfl) (Dec.D_iso (fun x : XB.S39 => (x.f0, x.f1)) (fun p => ⟨p.1, p.2⟩) (fun _ => rfl) (Dec.D_struct Try.underlying39 (by kernel_rfl) (Dec.Fs_cons (Dec.D_int Try.underlying3) rfl (by kernel_rfl) (by simp; decide) (Dec.Fs_one (Dec.D_string Try.underlying9) rfl (by kernel_rfl)))))) rfl (by kernel_rfl) (by simp; decide) (Dec.Fs_cons (Dec.D_int Try.underlying3) rfl (by kernel_rfl) (by simp; decide) (Dec.Fs_one (Dec.D_bool Try.underlying4) rfl (by kernel_rfl))))))) (hval 1 25 v1 rfl rfl) h1
  obtain ⟨A1_0, c1_0, A1_1, c1_1, hcs1, hc1_0, hr1_0, hc1_1, hr1_1⟩ := XB.k25_open hK1
  obtain rfl := Dec.agg_of hcs1
  have bb1 : ((((a1.f0.map (fun x => (x.size + 1))).sum + 1) + (((a1.f1.map (fun x => ((1 + (x.f1.size + 1)) + 1))).sum + 1) + (1 + 1))) + 1) ≤ Rows.uptoBulk d1 := b1
  have k2 := h2
  have lt2 : ∀ x ∈ p2, x.block < W.heap.size := by obtain ⟨m, hm⟩ := k2; exact DataW.trod_lt m _ _ _ hm
  obtain ⟨A2, c2, l2, rfl, hc2, hr2, w2, b2⟩ := Dec.arg_slice Try.underlying26 (Dec.D_slice Try.underlying26 (by kernel_rfl) (Dec.D_int Try.underlying3)) (hval 2 26 v2 rfl rfl) h2
  have bb2 : ((l2.map (fun _ => 1)).sum + 1) ≤ Rows.uptoBulk d2 := b2
  clear hA0 hval
  simp [Rows.uptoSmall, Rows.uptoBulkAll, Rows.uptoBulk] at hk
  obtain ⟨k, h⟩ := Pure.BlockCrash a0 a1 l2 w0 w1 w2 (by have := bb0; have := bb1; have := bb2; omega)
  refine (XB.bellmanlaw03_BlockCrash.calls k A0_0 c0_0 a0.f0 A0_1 c0_1 a0.f1 a0.f2 a0.f3 A1_0 c1_0 a1.f0 A1_1 c1_1 a1.f1 a1.f2 a1.f3 A2 c2 l2 true W hr0_0 hc0_0 hr0_1 hc0_1 hr1_0 hc1_0 hr1_1 hc1_1 hr2 hc2 h).mono ?_
  rintro e W' ⟨rfl, hd⟩
  have bel := hd
  exact ⟨_, rfl, _, _, _, [], _, [], hW', trodAll_mk1 (shut_bool Try.underlying4 _), (trodAll_cons_mk (Below.trod laidOut (by kernel_rfl) (of_decide_eq_true (by kernel_rfl)) k0 bel lt0) (trodAll_cons_mk (Below.trod laidOut (by kernel_rfl) (of_decide_eq_true (by kernel_rfl)) k1 bel lt1) (trodAll_cons_mk (Below.trod laidOut (by kernel_rfl) (of_decide_eq_true (by kernel_rfl)) k2 bel lt2) trodAll_mk0))), rfl, bel.frame _, fun h => by cases h⟩
set_option maxRecDepth 100000 in
theorem lifted (os : Os) (started : os.Started) (H : Type) (enc : TypeId × Value → H) (F : Stop.Interp) :
    ReturnsInHanded {} Try.checked os 3 .any ((Rows.OpenSpec.upto Rows.blockCrashSpec).pre6 enc Try.prog Try.f3 Rows.blockCrashUptoRow.domain false) (((Rows.OpenSpec.upto Rows.blockCrashSpec).at F).post enc Try.prog Try.f3 false true false false) := by
  refine returnsInHanded_of_cond (C := Try.checked) (s := Rows.OpenSpec.upto Rows.blockCrashSpec) (k := Rows.uptoSmall) rfl own started (by kernel_rfl) Try.func3
    (OpenSpec.witness (enc := enc) (C := Try.checked) (s := Rows.OpenSpec.upto Rows.blockCrashSpec) (k := Rows.uptoSmall) rfl false ⟨#[], #[.agg #[.slice none 0 0, .slice none 0 0, .int .i64 0, .bool false], .agg #[.slice none 0 0, .slice none 0 0, .int .i64 0, .bool false], .slice none 0 0], []⟩ 8 (by kernel_rfl) (by kernel_rfl) (by kernel_rfl)
      (x := ([.agg [.nil, .nil, .lit (.int .i64 0), .lit (.bool false)], .agg [.nil, .nil, .lit (.int .i64 0), .lit (.bool false)], .nil], [], [])) (by kernel_rfl) rfl (by kernel_rfl)) ?_
  intro W base args ds gs before hval hW _ hk _
  exact contract H enc W base args ds gs before hval hW hk
theorem over : Rows.blockCrashUptoRow.holds Try.pinned (Rows.OpenSpec.upto Rows.blockCrashSpec) :=
  OpenClaim.holds_of_cond 3 Try.f3 rfl rfl rfl rfl rfl rfl rfl ⟨rfl, rfl, rfl, rfl, rfl⟩ rfl rfl rfl rfl rfl (by kernel_rfl) Try.func3 (by kernel_rfl)
    (of_decide_eq_true (by kernel_rfl)) (by unfold Func.isWrapper; first | (rw [if_pos (by decide +kernel)]; kernel_rfl) | (rw [if_neg (by decide +kernel)]; exact ⟨rfl, rfl⟩))
    (fun os started H enc _ F => lifted os started H enc F)
theorem proved : Rows.BlockCrashUptoSaid := over
end Go.Proofs.Ytedbbpefogcjnaa.blockCrash
namespace Go.Proofs.Ytedbbpefogcjnaa
/-- The row, under a short name, for the claim. -/
theorem blockCrash_holds : Rows.BlockCrashUptoSaid := blockCrash.proved
end Go.Proofs.Ytedbbpefogcjnaa
