-- by px.py, a program of this session
import Derived.Test.YtedbbpefogcjnaaRows
import Derived.Test.YtedbbpefogcjnaaXB12
import Derived.Test.YtedbbpefogcjnaaUBlockSafe
import Derived.Test.YtedbbpefogcjnaaPureBlockSafe
import Derived.Test.YtedbbpefogcjnaaQDec
import Derived.WalkKit
import Derived.ProofKit
import Derived.OpenShut
import Derived.ShutString
import Derived.ChangeOld
import Derived.Below
import Derived.SizedLaws
import Derived.JoinedCond
namespace Go.Proofs.Ytedbbpefogcjnaa.blockSafe
open Go.ChangeShapes Go.WideShapes Go.ChangeAt Go.RowKit
open Go.ChangeMaps (open_string shut_string)
set_option linter.unusedVariables false
set_option linter.unusedSimpArgs false
theorem own : ownKnob Try.prog.godebug = none := by kernel_rfl
theorem laidOut : laidOutB Try.prog = true := by kernel_rfl
set_option maxRecDepth 100000 in
theorem contract (H : Type) (enc : TypeId × Value → H) (W : World) (base : Nat) (args : Array Value) (ds gs : List (DataW H)) (before : List MemPlace)
    (hval : ∀ (j : Nat) t v, Try.f4.params[j]? = some t → args[j]? = some v → Value.okWide Try.prog W .any base t v)
    (hW : DataW.Whole enc Try.prog Try.f4.params.toList Rows.blockSafeSpec.vars false W args.toList ds gs before) (hk : Rows.uptoSmall H (ds ++ gs) = true) :
    Calls Try.prog 4 args W fun e W' => ∃ v, e = .returned v ∧ Rows.blockSafeSpec.post enc Try.prog Try.f4 false true false false W args v W' := by
  have hW' := hW
  obtain ⟨p, q, hA0, hV, rfl, hfz, hnd⟩ := hW
  have hA : DataW.TrodAll enc Try.prog W 0 (fun _ => true) true Try.f4.params.toList args.toList ds p := hA0
  rw [Try.params4] at hA hval
  obtain ⟨v0, vs0, d0, ds0, p0, q0, hargs, rfl, rfl, h0, r0⟩ := trodAll_cons hA
  obtain ⟨v1, vs1, d1, ds1, p1, q1, rfl, rfl, rfl, h1, r1⟩ := trodAll_cons r0
  obtain ⟨v2, vs2, d2, ds2, p2, q2, rfl, rfl, rfl, h2, r2⟩ := trodAll_cons r1
  obtain ⟨v3, vs3, d3, ds3, p3, q3, rfl, rfl, rfl, h3, r3⟩ := trodAll_cons r2
  obtain ⟨rfl, rfl, rfl⟩ := trodAll_nil r3
  obtain rfl : args = #[v0, v1, v2, v3] := by cases args; simp_all
  obtain ⟨rfl, rfl⟩ := trodVars_none hV
  have k0 := h0
  have lt0 : ∀ x ∈ p0, x.block < W.heap.size := by obtain ⟨m, hm⟩ := k0; exact DataW.trod_lt m _ _ _ hm
  obtain ⟨a0, cs0, rfl, hK0, w0, b0⟩ := Dec.arg_struct Try.underlying25 (Dec.D_iso (fun x : XB.S25 => (x.f0, x.f1, x.f2, x.f3)) (fun p => ⟨p.1, p.2.1, p.2.2.1, p.2.2.2⟩) (fun _ => rfl) (Dec.D_struct Try.underlying25 (by kernel_rfl) (Dec.Fs_cons (Dec.D_slice Try.underlying22 (by kernel_rfl) (Dec.D_string Try.underlying9)) rfl (by kernel_rfl) (by simp; decide) (Dec.Fs_cons (Dec.D_slice Try.underlying23 (by kernel_rfl) (Dec.D_iso (fun x : XB.S39 => (x.f0, x.f1)) (fun p => ⟨p.1, p.2⟩) (fun _ => rfl) (Dec.D_struct Try.underlying39 (by kernel_rfl) (Dec.Fs_cons (Dec.D_int Try.underlying3) rfl (by kernel_rfl) (by simp; decide) (Dec.Fs_one (Dec.D_string Try.underlying9) rfl (by kernel_rfl)))))) rfl (by kernel_rfl) (by simp; decide) (Dec.Fs_cons (Dec.D_int Try.underlying3) rfl (by kernel_rfl) (by simp; decide) (Dec.Fs_one (Dec.D_bool Try.underlying4) rfl (by kernel_rfl))))))) (hval 0 25 v0 rfl rfl) h0
  obtain ⟨A0_0, c0_0, A0_1, c0_1, hcs0, hc0_0, hr0_0, hc0_1, hr0_1⟩ := XB.k25_open hK0
  obtain rfl := Dec.agg_of hcs0
  have bb0 : ((((a0.f0.map (fun x => (x.size + 1))).sum + 1) + (((a0.f1.map (fun x => ((1 + (x.f1.size + 1)) + 1))).sum + 1) + (1 + 1))) + 1) ≤ Rows.uptoBulk d0 := b0
  obtain ⟨a1, rfl, rfl, rfl, w1⟩ := open_int Try.underlying3 (hval 1 3 v1 rfl rfl) h1
  have k2 := h2
  have lt2 : ∀ x ∈ p2, x.block < W.heap.size := by obtain ⟨m, hm⟩ := k2; exact DataW.trod_lt m _ _ _ hm
  obtain ⟨A2, c2, l2, rfl, hc2, hr2, w2, b2⟩ := Dec.arg_slice Try.underlying23 (Dec.D_slice Try.underlying23 (by kernel_rfl) (Dec.D_iso (fun x : XB.S39 => (x.f0, x.f1)) (fun p => ⟨p.1, p.2⟩) (fun _ => rfl) (Dec.D_struct Try.underlying39 (by kernel_rfl) (Dec.Fs_cons (Dec.D_int Try.underlying3) rfl (by kernel_rfl) (by simp; decide) (Dec.Fs_one (Dec.D_string Try.underlying9) rfl (by kernel_rfl)))))) (hval 2 23 v2 rfl rfl) h2
  have bb2 : ((l2.map (fun x => ((1 + (x.f1.size + 1)) + 1))).sum + 1) ≤ Rows.uptoBulk d2 := b2
  have k3 := h3
  have lt3 : ∀ x ∈ p3, x.block < W.heap.size := by obtain ⟨m, hm⟩ := k3; exact DataW.trod_lt m _ _ _ hm
  obtain ⟨A3, c3, l3, rfl, hc3, hr3, w3, b3⟩ := Dec.arg_slice Try.underlying26 (Dec.D_slice Try.underlying26 (by kernel_rfl) (Dec.D_int Try.underlying3)) (hval 3 26 v3 rfl rfl) h3
  have bb3 : ((l3.map (fun _ => 1)).sum + 1) ≤ Rows.uptoBulk d3 := b3
  clear hA0 hval
  simp [Rows.uptoSmall, Rows.uptoBulkAll, Rows.uptoBulk] at hk
  obtain ⟨k, h⟩ := Pure.BlockSafe a0 a1 l2 l3 w0 w1 w2 w3 (by have := bb0; have := bb2; have := bb3; omega)
  refine (XB.bellmanlaw03_BlockSafe.calls k A0_0 c0_0 a0.f0 A0_1 c0_1 a0.f1 a0.f2 a0.f3 a1 A2 c2 l2 A3 c3 l3 true W hr0_0 hc0_0 hr0_1 hc0_1 hr2 hc2 hr3 hc3 h).mono ?_
  rintro e W' ⟨rfl, hd⟩
  have bel := hd
  exact ⟨_, rfl, _, _, _, [], _, [], hW', trodAll_mk1 (shut_bool Try.underlying4 _), (trodAll_cons_mk (Below.trod laidOut (by kernel_rfl) (of_decide_eq_true (by kernel_rfl)) k0 bel lt0) (trodAll_cons_mk (shut_int Try.underlying3 w1) (trodAll_cons_mk (Below.trod laidOut (by kernel_rfl) (of_decide_eq_true (by kernel_rfl)) k2 bel lt2) (trodAll_cons_mk (Below.trod laidOut (by kernel_rfl) (of_decide_eq_true (by kernel_rfl)) k3 bel lt3) trodAll_mk0)))), rfl, bel.frame _, fun h => by cases h⟩
set_option maxRecDepth 100000 in
theorem lifted (os : Os) (started : os.Started) (H : Type) (enc : TypeId × Value → H) (F : Stop.Interp) :
    ReturnsInHanded {} Try.checked os 4 .any ((Rows.OpenSpec.upto Rows.blockSafeSpec).pre6 enc Try.prog Try.f4 Rows.blockSafeUptoRow.domain false) (((Rows.OpenSpec.upto Rows.blockSafeSpec).at F).post enc Try.prog Try.f4 false true false false) := by
  refine returnsInHanded_of_cond (C := Try.checked) (s := Rows.OpenSpec.upto Rows.blockSafeSpec) (k := Rows.uptoSmall) rfl own started (by kernel_rfl) Try.func4
    (OpenSpec.witness (enc := enc) (C := Try.checked) (s := Rows.OpenSpec.upto Rows.blockSafeSpec) (k := Rows.uptoSmall) rfl false ⟨#[], #[.agg #[.slice none 0 0, .slice none 0 0, .int .i64 0, .bool false], .int .i64 0, .slice none 0 0, .slice none 0 0], []⟩ 8 (by kernel_rfl) (by kernel_rfl) (by kernel_rfl)
      (x := ([.agg [.nil, .nil, .lit (.int .i64 0), .lit (.bool false)], .lit (.int .i64 0), .nil, .nil], [], [])) (by kernel_rfl) rfl (by kernel_rfl)) ?_
  intro W base args ds gs before hval hW _ hk _
  exact contract H enc W base args ds gs before hval hW hk
theorem over : Rows.blockSafeUptoRow.holds Try.pinned (Rows.OpenSpec.upto Rows.blockSafeSpec) :=
  OpenClaim.holds_of_cond 4 Try.f4 rfl rfl rfl rfl rfl rfl rfl ⟨rfl, rfl, rfl, rfl, rfl⟩ rfl rfl rfl rfl rfl (by kernel_rfl) Try.func4 (by kernel_rfl)
    (of_decide_eq_true (by kernel_rfl)) (by unfold Func.isWrapper; first | (rw [if_pos (by decide +kernel)]; kernel_rfl) | (rw [if_neg (by decide +kernel)]; exact ⟨rfl, rfl⟩))
    (fun os started H enc _ F => lifted os started H enc F)
theorem proved : Rows.BlockSafeUptoSaid := over
end Go.Proofs.Ytedbbpefogcjnaa.blockSafe
namespace Go.Proofs.Ytedbbpefogcjnaa
/-- The row, under a short name, for the claim. -/
theorem blockSafe_holds : Rows.BlockSafeUptoSaid := blockSafe.proved
end Go.Proofs.Ytedbbpefogcjnaa
