-- by px.py, a program of this session
import Derived.Test.YtbimjpafgiogcaaDoorRows
import Derived.Test.YtbimjpafgiogcaaDoorZXQ21
import Derived.Test.YtbimjpafgiogcaaDoorZQA
import Derived.Test.YtbimjpafgiogcaaDoorCards
import Derived.Test.YtbimjpafgiogcaaDoorTie
import Derived.Deep.DeepHandedRow
import Derived.Lib.LaidTab
import Derived.SevenTiedAt
import Derived.Shelf.Vars
import Derived.WalkKit
import Derived.ProofKit
import Derived.OpenShut
import Derived.ShutString
import Derived.ChangeOld
import Derived.Below
import Derived.SizedLaws
import Derived.JoinedCond
namespace Go.Proofs.YtbimjpafgiogcaaDoor.topHushed
open Go.ChangeShapes Go.WideShapes Go.ChangeAt Go.RowKit
open Go.ChangeMaps (open_string shut_string)
set_option linter.unusedVariables false
set_option linter.unusedSimpArgs false
theorem own : ownKnob Tryd.prog.godebug = none := by kernel_rfl
theorem gTab : Tryd.prog.globalNamed "bellman/civil.before" = some 0 := by kernel_rfl
theorem gTabType : (Tryd.prog.globals[0]?).map (·.type) = some 125 := by kernel_rfl
theorem cellsT : Tryd.prog.cellsOf 125 = 13 := by kernel_rfl
theorem cellsE : Tryd.prog.cellsOf 3 = 1 := by kernel_rfl
theorem laidOut : laidOutB Tryd.prog = true := by kernel_rfl
set_option maxRecDepth 100000 in
theorem contract (H : Type) (enc : TypeId × Value → H) (W : World) (base : Nat) (args : Array Value) (ds gs : List (DataW H)) (before : List MemPlace)
    (hval : ∀ (j : Nat) t v, Tryd.f3.params[j]? = some t → args[j]? = some v → Value.okWide Tryd.prog W .any base t v)
    (hW : DataW.Whole enc Tryd.prog Tryd.f3.params.toList Rows.topHushedSpec.vars false W args.toList ds gs before) (hk : Rows.uptoSmall H (ds ++ gs) = true) (hL : laidMetH Tryd.prog Rows.topHushedUptoRow.laid W) (hsh : W.ShapedOpen Tryd.prog) :
    Calls Tryd.prog 3 args W fun e W' => ∃ v, e = .returned v ∧ Rows.topHushedSpec.post enc Tryd.prog Tryd.f3 false true false false W args v W' := by
  have hW' := hW
  obtain ⟨p, q, hA0, hV, rfl, hfz, hnd⟩ := hW
  have hA : DataW.TrodAll enc Tryd.prog W 0 (fun _ => true) true Tryd.f3.params.toList args.toList ds p := hA0
  rw [Tryd.params3] at hA hval
  obtain ⟨v0, vs0, d0, ds0, p0, q0, hargs, rfl, rfl, h0, r0⟩ := trodAll_cons hA
  obtain ⟨v1, vs1, d1, ds1, p1, q1, rfl, rfl, rfl, h1, r1⟩ := trodAll_cons r0
  obtain ⟨v2, vs2, d2, ds2, p2, q2, rfl, rfl, rfl, h2, r2⟩ := trodAll_cons r1
  obtain ⟨v3, vs3, d3, ds3, p3, q3, rfl, rfl, rfl, h3, r3⟩ := trodAll_cons r2
  obtain ⟨rfl, rfl, rfl⟩ := trodAll_nil r3
  obtain rfl : args = #[v0, v1, v2, v3] := by cases args; simp_all
  obtain ⟨rfl, rfl⟩ := trodVars_none hV
  have k0 := h0
  have lt0 : ∀ x ∈ p0, x.block < W.heap.size := by obtain ⟨m, hm⟩ := k0; exact DataW.trod_lt m _ _ _ hm
  obtain ⟨a0, cs0, rfl, hK0, w0, b0⟩ := Dec.arg_struct Tryd.underlying25 (Dec.D_iso (fun x : XQ.S25 => (x.f0, x.f1, x.f2, x.f3)) (fun p => ⟨p.1, p.2.1, p.2.2.1, p.2.2.2⟩) (fun _ => rfl) (Dec.D_struct Tryd.underlying25 (by kernel_rfl) (Dec.Fs_cons (Dec.D_int Tryd.underlying3) rfl (by kernel_rfl) (by simp; decide) (Dec.Fs_cons (Dec.D_int Tryd.underlying3) rfl (by kernel_rfl) (by simp; decide) (Dec.Fs_cons (Dec.D_iso (fun x : XQ.S23 => (x.f0, x.f1, x.f2, x.f3)) (fun p => ⟨p.1, p.2.1, p.2.2.1, p.2.2.2⟩) (fun _ => rfl) (Dec.D_struct Tryd.underlying23 (by kernel_rfl) (Dec.Fs_cons (Dec.D_int Tryd.underlying3) rfl (by kernel_rfl) (by simp; decide) (Dec.Fs_cons (Dec.D_int Tryd.underlying3) rfl (by kernel_rfl) (by simp; decide) (Dec.Fs_cons (Dec.D_int Tryd.underlying3) rfl (by kernel_rfl) (by simp; decide) (Dec.Fs_one (Dec.D_int Tryd.underlying3) rfl (by kernel_rfl))))))) rfl (by kernel_rfl) (by simp; decide) (Dec.Fs_one (Dec.D_iso (fun x : XQ.S23 => (x.f0, x.f1, x.f2, x.f3)) (fun p => ⟨p.1, p.2.1, p.2.2.1, p.2.2.2⟩) (fun _ => rfl) (Dec.D_struct Tryd.underlying23 (by kernel_rfl) (Dec.Fs_cons (Dec.D_int Tryd.underlying3) rfl (by kernel_rfl) (by simp; decide) (Dec.Fs_cons (Dec.D_int Tryd.underlying3) rfl (by kernel_rfl) (by simp; decide) (Dec.Fs_cons (Dec.D_int Tryd.underlying3) rfl (by kernel_rfl) (by simp; decide) (Dec.Fs_one (Dec.D_int Tryd.underlying3) rfl (by kernel_rfl))))))) rfl (by kernel_rfl))))))) (hval 0 25 v0 rfl rfl) h0
  obtain rfl := Dec.agg_of (XQ.k25_open hK0)
  have bb0 : ((1 + (1 + (((1 + (1 + (1 + 1))) + 1) + ((1 + (1 + (1 + 1))) + 1)))) + 1) ≤ Rows.uptoBulk d0 := b0
  have k1 := h1
  have lt1 : ∀ x ∈ p1, x.block < W.heap.size := by obtain ⟨m, hm⟩ := k1; exact DataW.trod_lt m _ _ _ hm
  obtain ⟨A1, c1, l1, rfl, hc1, hr1, w1, b1⟩ := Dec.arg_slice Tryd.underlying26 (Dec.D_slice Tryd.underlying26 (by kernel_rfl) (Dec.D_iso (fun x : XQ.S45 => (x.f0, x.f1)) (fun p => ⟨p.1, p.2⟩) (fun _ => rfl) (Dec.D_struct Tryd.underlying45 (by kernel_rfl) (Dec.Fs_cons (Dec.D_int Tryd.underlying3) rfl (by kernel_rfl) (by simp; decide) (Dec.Fs_one (Dec.D_int Tryd.underlying3) rfl (by kernel_rfl)))))) (hval 1 26 v1 rfl rfl) h1
  have bb1 : ((l1.map (fun _ => ((1 + 1) + 1))).sum + 1) ≤ Rows.uptoBulk d1 := b1
  have k2 := h2
  have lt2 : ∀ x ∈ p2, x.block < W.heap.size := by obtain ⟨m, hm⟩ := k2; exact DataW.trod_lt m _ _ _ hm
  obtain ⟨A2, c2, l2, rfl, hc2, hr2, w2, b2⟩ := Dec.arg_slice Tryd.underlying26 (Dec.D_slice Tryd.underlying26 (by kernel_rfl) (Dec.D_iso (fun x : XQ.S45 => (x.f0, x.f1)) (fun p => ⟨p.1, p.2⟩) (fun _ => rfl) (Dec.D_struct Tryd.underlying45 (by kernel_rfl) (Dec.Fs_cons (Dec.D_int Tryd.underlying3) rfl (by kernel_rfl) (by simp; decide) (Dec.Fs_one (Dec.D_int Tryd.underlying3) rfl (by kernel_rfl)))))) (hval 2 26 v2 rfl rfl) h2
  have bb2 : ((l2.map (fun _ => ((1 + 1) + 1))).sum + 1) ≤ Rows.uptoBulk d2 := b2
  obtain ⟨a3, rfl, rfl, rfl, w3⟩ := open_int Tryd.underlying2 (hval 3 2 v3 rfl rfl) h3
  clear hA0 hval
  simp [Rows.uptoSmall, Rows.uptoBulkAll, Rows.uptoBulk] at hk
  obtain ⟨k, h⟩ := Pure.TopHushed a0 l1 l2 a3 w0 w1 w2 w3 (by have := bb0; have := bb1; have := bb2; omega)
  have HG : XQ.GB W := ⟨Lib.tabIs_of_head (rest := []) gTab gTabType Tryd.underlying125 Tryd.underlying3 cellsE cellsT hL⟩
  refine (XQ.bellmantop_TopHushed.calls k a0.f0 a0.f1 a0.f2.f0 a0.f2.f1 a0.f2.f2 a0.f2.f3 a0.f3.f0 a0.f3.f1 a0.f3.f2 a0.f3.f3 A1 c1 l1 A2 c2 l2 a3 true W hr1 hc1 hr2 hc2 h HG).mono ?_
  rintro e W' ⟨rfl, hd⟩
  have bel := hd
  exact ⟨_, rfl, _, _, _, [], _, [], hW', trodAll_mk1 (shut_bool Tryd.underlying4 _), (trodAll_cons_mk (Below.trod laidOut (by kernel_rfl) (of_decide_eq_true (by kernel_rfl)) k0 bel lt0) (trodAll_cons_mk (Below.trod laidOut (by kernel_rfl) (of_decide_eq_true (by kernel_rfl)) k1 bel lt1) (trodAll_cons_mk (Below.trod laidOut (by kernel_rfl) (of_decide_eq_true (by kernel_rfl)) k2 bel lt2) (trodAll_cons_mk (shut_int Tryd.underlying2 w3) trodAll_mk0)))), rfl, bel.frame _, fun h => by cases h⟩
noncomputable def laidWorld (os : Os) : World :=
  { World.holding Tryd.prog os ⟨#[], #[], []⟩ with heap := ((World.holding Tryd.prog os ⟨#[], #[], []⟩).heap.modify 0 fun | .cells _ t frozen => .cells #[.int .i64 0, .int .i64 31, .int .i64 59, .int .i64 90, .int .i64 120, .int .i64 151, .int .i64 181, .int .i64 212, .int .i64 243, .int .i64 273, .int .i64 304, .int .i64 334, .int .i64 365] t frozen | o => o) }
theorem laid_met (os : Os) : laidMet Tryd.prog Rows.topHushedUptoRow.laid ((laidWorld os).forCall (fun _ _ => 0) ⟨#[], #[.agg #[.int .i64 0, .int .i64 0, .int .i64 0, .int .i64 0, .int .i64 0, .int .i64 0, .int .i64 0, .int .i64 0, .int .i64 0, .int .i64 0], .slice none 0 0, .slice none 0 0, .int .i64 0], []⟩).memory :=
  laidMet_of_run' 8 (by kernel_rfl) (by kernel_rfl)
theorem reads (os : Os) {H : Type} (enc : TypeId × Value → H) : ∃ places, DataW.whole enc Tryd.prog ((laidWorld os).forCall (fun _ _ => 0) ⟨#[], #[.agg #[.int .i64 0, .int .i64 0, .int .i64 0, .int .i64 0, .int .i64 0, .int .i64 0, .int .i64 0, .int .i64 0, .int .i64 0, .int .i64 0], .slice none 0 0, .slice none 0 0, .int .i64 0], []⟩).memory Tryd.f3.params.toList Rows.topHushedSpec.vars false (#[.agg #[.int .i64 0, .int .i64 0, .int .i64 0, .int .i64 0, .int .i64 0, .int .i64 0, .int .i64 0, .int .i64 0, .int .i64 0, .int .i64 0], .slice none 0 0, .slice none 0 0, .int .i64 0] : Array Value).toList 8 = some ([.agg [.lit (.int .i64 0), .lit (.int .i64 0), .agg [.lit (.int .i64 0), .lit (.int .i64 0), .lit (.int .i64 0), .lit (.int .i64 0)], .agg [.lit (.int .i64 0), .lit (.int .i64 0), .lit (.int .i64 0), .lit (.int .i64 0)]], .nil, .nil, .lit (.int .i64 0)], [], places) :=
  ⟨[], by kernel_rfl⟩
set_option maxRecDepth 100000 in
theorem lifted (os : Os) (started : os.Started) (H : Type) (enc : TypeId × Value → H) (F : Stop.Interp) :
    ReturnsInHanded {} Tryd.checked os 3 .any ((Rows.OpenSpec.upto Rows.topHushedSpec).preRow enc Tryd.prog Tryd.f3 Rows.topHushedUptoRow.domain false Rows.topHushedUptoRow.laid) (((Rows.OpenSpec.upto Rows.topHushedSpec).at F).post enc Tryd.prog Tryd.f3 false true false false) := by
  obtain ⟨places, hx⟩ := reads os enc
  refine returnsInHanded_of_row (C := Tryd.checked) (s := Rows.OpenSpec.upto Rows.topHushedSpec) own started (by kernel_rfl) Tryd.func3
    (witness_row_at (enc := enc) (C := Tryd.checked) false (laidWorld os) #[.agg #[.int .i64 0, .int .i64 0, .int .i64 0, .int .i64 0, .int .i64 0, .int .i64 0, .int .i64 0, .int .i64 0, .int .i64 0, .int .i64 0], .slice none 0 0, .slice none 0 0, .int .i64 0] rfl (by kernel_rfl) (by kernel_rfl) (by kernel_rfl)
      (OpenSpec.preRow_of_cond 8 hx (by kernel_rfl) (fun k hk => by cases hk; kernel_rfl) (by kernel_rfl) (laid_met os))) ?_
  intro W base args ds gs before hval hW _ hcond _ hL hsh _
  exact contract H enc W base args ds gs before hval hW (hcond _ rfl) hL hsh
theorem over : Rows.topHushedUptoRow.holds Tryd.pinned (Rows.OpenSpec.upto Rows.topHushedSpec) :=
  OpenClaim.holds_of_cond 3 Tryd.f3 rfl rfl rfl rfl rfl rfl rfl ⟨rfl, rfl, rfl, rfl, rfl⟩ rfl rfl rfl rfl rfl (by kernel_rfl) Tryd.func3 (by kernel_rfl)
    (of_decide_eq_true (by kernel_rfl)) (by unfold Func.isWrapper; first | (rw [if_pos (by decide +kernel)]; kernel_rfl) | (rw [if_neg (by decide +kernel)]; exact ⟨rfl, rfl⟩))
    (fun os started H enc _ F => by rw [OpenClaim.pre_eq_preRow]; exact lifted os started H enc F)
theorem plain (f : FuncId) (fn : Func) (hf : Tryd.pinned.checked.prog.funcNamed "bellman/bellmantop.TopHushed" = some f) (hfn : Tryd.pinned.checked.prog.funcs[f]? = some fn) :
    false = Tryd.pinned.checked.prog.looks [] ∧ ∀ (j : Nat) t, fn.params[j]? = some t → Tryd.pinned.checked.prog.wantsStandIn t = false := by
  obtain rfl : f = 3 := Option.some.inj ((show Tryd.prog.funcNamed "bellman/bellmantop.TopHushed" = some 3 by kernel_rfl).symm.trans hf) |>.symm
  obtain rfl : fn = Tryd.f3 := (Option.some.inj (Tryd.func3.symm.trans hfn)).symm
  refine ⟨by kernel_rfl, fun j t ht => ?_⟩
  rw [Tryd.params3] at ht
  have ht' := Array.mem_of_getElem? ht
  simp only [List.mem_toArray, List.mem_cons, List.not_mem_nil, or_false] at ht'
  rcases ht' with rfl | rfl | rfl | rfl
  · exact (show Tryd.prog.wantsStandIn 25 = false by kernel_rfl)
  · exact (show Tryd.prog.wantsStandIn 26 = false by kernel_rfl)
  · exact (show Tryd.prog.wantsStandIn 26 = false by kernel_rfl)
  · exact (show Tryd.prog.wantsStandIn 2 = false by kernel_rfl)
theorem proved : Rows.TopHushedUptoCardSaid :=
  Claim7.holds_tied_plain_at .later [] _ _ _ _ over (fun _ h => by cases h) (by kernel_rfl) (fun _ h => by cases h) topHushedUpto_row_tie rfl ⟨rfl, rfl⟩ (by kernel_rfl) rfl plain (by kernel_rfl)
end Go.Proofs.YtbimjpafgiogcaaDoor.topHushed
namespace Go.Proofs.YtbimjpafgiogcaaDoor
theorem topHushed_holds : Rows.TopHushedUptoCardSaid := topHushed.proved
end Go.Proofs.YtbimjpafgiogcaaDoor
