/- For every text within the bound: one without two opening braces is one token, as it stands, or none, if it is empty. -/
import Derived.Test.YtcblmfcgjemgkaaDoorUScanPlain
import Derived.Test.YtcblmfcgjemgkaaDoorQScanP
import Derived.Test.YtcblmfcgjemgkaaDoorQScanL
set_option linter.unusedVariables false
set_option linter.unusedSimpArgs false
namespace Go.Proofs.YtcblmfcgjemgkaaDoor.XS
open Go.RowKit Go.Proofs.YtcblmfcgjemgkaaDoorW.PrintWords Go.Proofs.YtcblmfcgjemgkaaDoorW.PrintLast Go.Proofs.YtcblmfcgjemgkaaDoorW.PrintMore
theorem bt_byte (s : ByteArray) (i : Nat) (h : i < s.data.toList.length) (c : UInt8) : bt s (i : Int) = (c.toNat : Int) ↔ s.data.toList[i] = c := by
  have e : bt s (i : Int) = ((s.data.toList[i]).toNat : Int) := by
    have h2 : i < s.size := by rw [size_toL]; exact h
    unfold bt
    rw [Int.toNat_natCast, dif_pos h2]
    rfl
  rw [e]
  constructor
  · intro h; exact UInt8.toNat_inj.mp (by omega)
  · intro h; rw [h]
theorem plain_end {s : ByteArray} (hs : s.size ≤ 1048576) (hn : fnd 123 s.data.toList = none) :
    Ev (fun k => (scan_Tokens.f k s).bind fun bt315 => (if (s.size : Int) > 1024 then (some (bt315.2 == 12)) else (if s.toList = ([] : List UInt8) then (if bt315.2 = 0 then (some ((bt315.1.length : Int) == 0)) else (some false)) else (if bt315.2 = 0 then (if (bt315.1.length : Int) = 1 then (if 0 < (bt315.1.length : Int) then (if ((rd_T40 bt315.1 0).f0) = 1 then (some (((rd_T40 bt315.1 0).f1).toList == s.toList)) else (some false)) else (none)) else (some false)) else (some false))))) true := by
  refine Ev.bind (Tokens_f s) (f := fun _ bt315 => (if (s.size : Int) > 1024 then (some (bt315.2 == 12)) else (if s.toList = ([] : List UInt8) then (if bt315.2 = 0 then (some ((bt315.1.length : Int) == 0)) else (some false)) else (if bt315.2 = 0 then (if (bt315.1.length : Int) = 1 then (if 0 < (bt315.1.length : Int) then (if ((rd_T40 bt315.1 0).f0) = 1 then (some (((rd_T40 bt315.1 0).f1).toList == s.toList)) else (some false)) else (none)) else (some false)) else (some false))))) ?_
  unfold tokensM
  by_cases c : 1024 < s.size
  · rw [if_pos c, if_pos (by omega)]
    exact Ev.now _
  · rw [if_neg c, if_neg (by omega), tkM]
    by_cases d : s.data.toList = []
    · rw [if_pos d, if_pos (by rw [toList_data]; exact d)]
      exact Ev.now _
    · rw [if_neg d, if_neg (by rw [toList_data]; exact d), hn]
      simp only [List.nil_append]
      show Ev (fun _ => some ((ofL s.data.toList).toList == s.toList)) true
      rw [ofL_data, beq_self_eq_true]
      exact Ev.now _
theorem plain_loop {s : ByteArray} (hs : s.size ≤ 1048576) : ∀ (d i : Nat), i + d = s.size → fnd 123 s.data.toList = (fnd 123 (s.data.toList.drop i)).map (· + i) → Ev (fun k => bellmanlaw10_ScanPlain.l0 k s (i : Int)) true
  | 0, i, h, hf => by
    rw [List.drop_eq_nil_of_le (by rw [← size_toL]; omega)] at hf
    refine Ev.step (fun k => ?_) (plain_end hs hf)
    rw [bellmanlaw10_ScanPlain.l0, if_neg (by unfold wrap64; omega)]
  | 1, i, h, hf => by
    have hl : (s.data.toList.drop i).length = 1 := by rw [List.length_drop, ← size_toL]; omega
    obtain ⟨x, hx⟩ := List.length_eq_one_iff.mp hl
    rw [hx] at hf
    refine Ev.step (fun k => ?_) (plain_end hs hf)
    rw [bellmanlaw10_ScanPlain.l0, if_neg (by unfold wrap64; omega)]
  | d + 2, i, h, hf => by
    have hi : i < s.data.toList.length := by rw [← size_toL]; omega
    have hi2 : i + 1 < s.data.toList.length := by rw [← size_toL]; omega
    have hw : wrap64 ((i : Int) + 1) = ((i + 1 : Nat) : Int) := by unfold wrap64; omega
    have hd : s.data.toList.drop i = s.data.toList[i] :: s.data.toList[i + 1] :: s.data.toList.drop (i + 2) := by
      rw [List.drop_eq_getElem_cons hi, List.drop_eq_getElem_cons hi2]
    have b1 : bt s (i : Int) = 123 ↔ s.data.toList[i] = 123 := bt_byte s i hi 123
    have b2 : bt s ((i + 1 : Nat) : Int) = 123 ↔ s.data.toList[i + 1] = 123 := bt_byte s (i + 1) hi2 123
    have hst : ∀ k, bellmanlaw10_ScanPlain.l0 (k + 1) s (i : Int) = if s.data.toList[i] = 123 ∧ s.data.toList[i + 1] = 123 then some true else bellmanlaw10_ScanPlain.l0 k s ((i + 1 : Nat) : Int) := by
      intro k
      rw [bellmanlaw10_ScanPlain.l0, hw, if_pos (by omega), if_pos (by omega), if_pos (by omega)]
      by_cases c1 : s.data.toList[i] = 123
      · rw [if_pos (b1.2 c1), if_pos (by omega)]
        by_cases c2 : s.data.toList[i + 1] = 123
        · rw [if_pos (b2.2 c2), if_pos ⟨c1, c2⟩]
        · rw [if_neg (fun e => c2 (b2.1 e)), if_neg (fun e => c2 e.2)]
      · rw [if_neg (fun e => c1 (b1.1 e)), if_neg (fun e => c1 e.1)]
    by_cases c : s.data.toList[i] = 123 ∧ s.data.toList[i + 1] = 123
    · exact Ev.step (f := fun _ => some true) (fun k => by rw [hst, if_pos c]) (Ev.now _)
    · refine Ev.step (fun k => by rw [hst, if_neg c]) (plain_loop hs (d + 1) (i + 1) (by omega) ?_)
      rw [hf, hd, fnd, if_neg c, List.drop_eq_getElem_cons hi2, Option.map_map]
      congr 1
      funext j
      simp only [Function.comp_apply]
      omega
theorem pure_ScanPlain : bellmanlaw10_ScanPlain.PureU := by
  intro s hs
  refine Ev.rounds ?_
  unfold bellmanlaw10_ScanPlain.f
  refine Ev.bind scan_lives (f := fun k t314 => if t314 = true then bellmanlaw10_ScanPlain.l0 k s 0 else none) ?_
  simp only [if_true]
  refine plain_loop (by omega) s.size 0 (by omega) ?_
  rw [List.drop_zero]
  cases fnd 123 s.data.toList <;> rfl
end Go.Proofs.YtcblmfcgjemgkaaDoor.XS
namespace Go.Proofs.YtcblmfcgjemgkaaDoor.Pure
theorem ScanPlain : XS.bellmanlaw10_ScanPlain.PureU := XS.pure_ScanPlain
end Go.Proofs.YtcblmfcgjemgkaaDoor.Pure
