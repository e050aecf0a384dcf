-- by px.py, a program of this session, over the kit's printer: functions given by hand stand beside printed ones. Lean checks all of it.
import Derived.Test.YtedbbpefogcjnaaXB0
import Derived.Test.YtedbbpefogcjnaaGDev
import Derived.Test.YtedbbpefogcjnaaGIdxE
import Derived.Test.YtedbbpefogcjnaaGLayB
import Derived.Test.YtedbbpefogcjnaaGDev
import Derived.Test.YtedbbpefogcjnaaGRange
import Derived.Shelf.Abstract
import Derived.Shelf.RegionOpenPlain
import Derived.RangeFuncNested
import Derived.RangeFuncBound
import Derived.RangeFuncCalls
import Derived.RangeFuncLeaves
import Derived.OwnWalkIn
import Derived.TacticsInMore
import Derived.LoopNIn
import Derived.LoopIn
import Derived.Test.YtedbbpefogcjnaaGDev
import Derived.Test.YtedbbpefogcjnaaGDev
import Derived.Test.YtedbbpefogcjnaaGDev
namespace Go.Proofs.Ytedbbpefogcjnaa.XB
open Go.RowKit Go.Proofs.YtedbbpefogcjnaaW.PrintWords Go.Proofs.YtedbbpefogcjnaaW.PrintLast Go.Proofs.YtedbbpefogcjnaaW.PrintMore
attribute [local go_sem] max2_int min2_int max_two min_two max_three min_three max_four min_four   -- for this text's walks alone
set_option linter.unusedVariables false
set_option linter.unusedSimpArgs false

-- NOT PRINTED: function 37 (slices_IndexFunc_string_string)

-- NOT PRINTED: function 27 (slices_ContainsFunc_string_string)

-- NOT PRINTED: function 38 (api_Wait_38)

-- NOT PRINTED: function 29 (api_Wait_29)

-- PXIMPORT YtedbbpefogcjnaaGDev
-- PXIMPORT YtedbbpefogcjnaaGIdxE
-- PXIMPORT YtedbbpefogcjnaaGLayB
/-! ### block_Check: function 16, by hand -/
def block_Check.f (l0_0 : List ByteArray) (l0_1 : List (S39)) (a0_2 : Int) (a0_3 : Bool) : Option (Int) := some (dv_check ⟨l0_0, l0_1, a0_2, a0_3⟩)
set_option maxHeartbeats 400000 in
set_option maxRecDepth 100000 in
theorem block_Check1 (x : ByteArray) (W : World) : Calls Try.prog 28 #[.string x] W fun e w' => e = .returned (.bool (!(x.size == 64))) ∧ w' = W := by
 have hc : ((x.size : Int) != 64) = !(x.size == 64) := by
  rw [Bool.eq_iff_iff]; simp; omega
 go_enter Try.func28, Try.ntmps28
 go_wp2
 go_ret
 exact ⟨by first | rfl | simp_all | (simp; omega), rfl⟩
set_option maxHeartbeats 800000 in
set_option maxRecDepth 100000 in
theorem block_Check2 (x : S39) (g n : Nat) (A : Option Addr) (c : Nat) (W : World) (h0 : W.cell? ⟨g, 0, none⟩ = some (.slice A n c)) : Calls Try.prog 30 #[.agg #[.int .i64 x.f0, .string x.f1], .pointer (some ⟨g, 0, none⟩)] W fun e w' => e = .returned (.bool (!dv_okw n x)) ∧ Below W.heap.size W w' := by
 have hb := (Below.refl W.heap.size W)
 have hne : W.heap.size ≠ g := World.new_ne W ⟨g, 0, none⟩ h0
 have hne2 := hne.symm
 have hu := Try.underlying39
 have e1 : (W.alloc (.cells #[.int .i64 x.f0, .string x.f1] 39)).cell? ⟨g, 0, none⟩ = some (.slice A n c) := (World.cell?_alloc_lt _ _ _ (World.block_lt_of_cell? W ⟨g, 0, none⟩ h0)).trans h0
 obtain ⟨f0, f1⟩ := x
 unfold dv_okw
 by_cases c1 : 0 ≤ f0
 ·by_cases c2 : f0 < (n : Int)
  ·by_cases c3 : f1.size = 64
   ·have q1 : ¬ f0 < 0 := by omega
    have q2 : ¬ (n : Int) ≤ f0 := by omega
    have q3 : ((f1.size : Int) = 64) = True := eq_true (by omega)
    have q4 : ((f1.size : Int) == 64) = true := beq_iff_eq.mpr (by omega)
    have q5 : ((f1.size : Int) != 64) = false := by rw [bne, q4]; rfl
    go_enter Try.func30, Try.ntmps30
    go_wp2
    all_goals (go_ret; exact ⟨by first | rfl | (simp_all; done) | (simp_all; omega), hb.alloc hb.size _⟩)
   ·have q1 : ¬ f0 < 0 := by omega
    have q2 : ¬ (n : Int) ≤ f0 := by omega
    have q3 : ((f1.size : Int) = 64) = False := eq_false (by omega)
    have q4 : ((f1.size : Int) == 64) = false := beq_eq_false_iff_ne.mpr (by omega)
    have q5 : ((f1.size : Int) != 64) = true := by rw [bne, q4]; rfl
    go_enter Try.func30, Try.ntmps30
    go_wp2
    all_goals (go_ret; exact ⟨by first | rfl | (simp_all; done) | (simp_all; omega), hb.alloc hb.size _⟩)
  ·have q1 : ¬ f0 < 0 := by omega
   have q2 : (n : Int) ≤ f0 := by omega
   go_enter Try.func30, Try.ntmps30
   go_wp2
   all_goals (go_ret; exact ⟨by first | rfl | (simp_all; done) | (simp_all; omega), hb.alloc hb.size _⟩)
 ·have q1 : f0 < 0 := by omega
  go_enter Try.func30, Try.ntmps30
  go_wp2
  all_goals (go_ret; exact ⟨by first | rfl | (simp_all; done) | (simp_all; omega), hb.alloc hb.size _⟩)
set_option maxHeartbeats 2000000 in
set_option maxRecDepth 100000 in
theorem block_Check.calls (A0_0 : Option Addr) (c0_0 : Nat) (l0_0 : List ByteArray) (A0_1 : Option Addr) (c0_1 : Nat) (l0_1 : List (S39)) (a0_2 : Int) (a0_3 : Bool) (r : Int) (w : World) (hr0_0 : Kd.C Kd.string w A0_0 l0_0.length l0_0) (hc0_0 : l0_0.length ≤ c0_0) (hr0_1 : Kd.C k39 w A0_1 l0_1.length l0_1) (hc0_1 : l0_1.length ≤ c0_1) (h : block_Check.f l0_0 l0_1 a0_2 a0_3 = some r) :
  Calls Try.prog 16 #[.agg #[.slice A0_0 l0_0.length c0_0, .slice A0_1 l0_1.length c0_1, .int .i64 a0_2, .bool a0_3]] w fun e w' => e = .returned (.int .i64 r) ∧ Below w.heap.size w w' := by
 obtain rfl := Option.some.inj h
 clear h
 have hu := Try.underlying25
 have hmf : ∀ (fn : Fn) (first cap : Array Value) (w : World), (Instr.makeFunc fn first cap).run Try.prog w = .ok (.func fn first cap) w := fun _ _ _ _ => rfl
 have hb := below_alloc (Below.refl w.heap.size w) (.cells #[.slice A0_0 l0_0.length c0_0, .slice A0_1 l0_1.length c0_1, .int .i64 a0_2, .bool a0_3] 25)
 have HB := Lib.hid hb
 haveI : Inhabited ByteArray := ⟨ByteArray.empty⟩
 haveI : Inhabited S39 := ⟨z39⟩
 have e1 : ∀ args w, (callFunc 28 args).run Try.prog w = .ok (.enter 28 args) w := enters_of Try.func28 (by kernel_rfl) rfl
 have e2 : ∀ args w, (callFunc 30 args).run Try.prog w = .ok (.enter 30 args) w := enters_of Try.func30 (by kernel_rfl) rfl
 have HC1 := Lib.hid (gi_contains_e (d := Kd.string) (enc := fun x : ByteArray => .string x) Try.lay_hass rfl (fun h => h) (fun s => !(s.size == 64)) 28 #[] e1 A0_0 c0_0 l0_0 (w.alloc (.cells #[.slice A0_0 l0_0.length c0_0, .slice A0_1 l0_1.length c0_1, .int .i64 a0_2, .bool a0_3] 25)) (Kd.C_below hr0_0 hb) (fun W x _ => (block_Check1 x W).mono (fun e w' ⟨he, hw⟩ => ⟨he, 0, hw⟩)))
 have HC2 := Lib.hid (fun (W : World) (hbW : Below (w.alloc (.cells #[.slice A0_0 l0_0.length c0_0, .slice A0_1 l0_1.length c0_1, .int .i64 a0_2, .bool a0_3] 25)).heap.size (w.alloc (.cells #[.slice A0_0 l0_0.length c0_0, .slice A0_1 l0_1.length c0_1, .int .i64 a0_2, .bool a0_3] 25)) W) =>
  gi_contains (d := k39) (enc := wt_enc) Try.lay_hasw Try.isAgg39 Try.sizeOf39 (fun _ => rfl) (fun h => k39_open h) (by decide) (fun x => !dv_okw l0_0.length x) 30 #[.pointer (some ⟨w.heap.size, 0, none⟩)] e2 A0_1 c0_1 l0_1 W (Kd.C_below hr0_1 (hb.trans (hbW.mono hb.size)))
   (fun W' x hb' => (block_Check2 x w.heap.size l0_0.length A0_0 c0_0 W' (((hbW.trans (hb'.mono hbW.size)).cell (p := ⟨w.heap.size, 0, none⟩) (by simp)).trans (by simp))).mono (fun e w' ⟨he, hw⟩ => ⟨he, below_then hb' hb'.size hw⟩)))
 clear hr0_0 hr0_1 hb
 unfold dv_check dv_ok
 simp only
 by_cases c1 : l0_0.length ≤ 4096
 rotate_left
 ·have q1 : (4096 : Int) < (l0_0.length : Int) := by omega
  rw [decide_eq_false c1, Bool.false_and, if_neg (by decide)]
  go_enter Try.func16, Try.ntmps16
  go_wp2
  go_ret
  exact ⟨rfl, HB.out⟩
 have q1 : ¬ (4096 : Int) < (l0_0.length : Int) := by omega
 rw [decide_eq_true c1, Bool.true_and]
 clear c1
 by_cases c2 : l0_1.length ≤ 4096
 rotate_left
 ·have q2 : (4096 : Int) < (l0_1.length : Int) := by omega
  rw [decide_eq_false c2, Bool.false_and, if_neg (by decide)]
  go_enter Try.func16, Try.ntmps16
  go_wp2
  go_ret
  exact ⟨rfl, HB.out⟩
 have q2 : ¬ (4096 : Int) < (l0_1.length : Int) := by omega
 rw [decide_eq_true c2, Bool.true_and]
 clear c2
 by_cases c3 : -1 ≤ a0_2
 rotate_left
 ·have q3 : a0_2 < -1 := by omega
  rw [decide_eq_false c3, Bool.false_and, if_neg (by decide)]
  go_enter Try.func16, Try.ntmps16
  go_wp2
  go_ret
  exact ⟨rfl, HB.out⟩
 have q3 : ¬ a0_2 < -1 := by omega
 rw [decide_eq_true c3, Bool.true_and]
 clear c3
 have ea : (l0_0.all fun s => s.size == 64) = !(l0_0.any fun s => !(s.size == 64)) := by rw [List.all_eq_not_any_not]
 have eb : (l0_1.all (dv_okw l0_0.length)) = !(l0_1.any fun x => !dv_okw l0_0.length x) := by rw [List.all_eq_not_any_not]
 rw [ea, eb]
 have HC1' := HC1.out
 change Calls Try.prog 27 _ _ _ at HC1'
 have HC2' := HC2.out
 change ∀ W, _ → Calls Try.prog 29 _ _ _ at HC2'
 clear HC1 HC2
 generalize (l0_0.any fun s => !(s.size == 64)) = r1 at HC1' ⊢
 generalize (l0_1.any fun x => !dv_okw l0_0.length x) = r2 at HC2' ⊢
 have H1 := Lib.hid HC1'
 have H2 := Lib.hid HC2'
 clear HC1' HC2' ea eb
 cases r1 with
 | true =>
  go_enter Try.func16, Try.ntmps16
  go_wp2_with (go_at_call 27; refine H1.out.mono ?_; rintro e w3 ⟨rfl, hb3⟩; have HB3 := Lib.hid hb3; clear hb3)
  go_ret
  exact ⟨rfl, below_then HB.out HB.out.size HB3.out⟩
 | false =>
  cases r2 with
  | true =>
   go_enter Try.func16, Try.ntmps16
   go_wp2_with (first | (go_at_call 27; refine H1.out.mono ?_; rintro e w3 ⟨rfl, hb3⟩; have HB3 := Lib.hid hb3; obtain ⟨x0, x1, x2, x3⟩ := blk_cells4 ((hb3.block w.heap.size (by simp)).trans (blk_new _ _)); clear hb3) | (go_at_call 29; refine (H2.out w3 HB3.out).mono ?_; rintro e w4 ⟨rfl, hb4⟩; have HB4 := Lib.hid hb4; clear hb4))
   go_ret
   exact ⟨rfl, below_then (below_then HB.out HB.out.size HB3.out) (below_then HB.out HB.out.size HB3.out).size HB4.out⟩
  | false =>
   go_enter Try.func16, Try.ntmps16
   go_wp2_with (first | (go_at_call 27; refine H1.out.mono ?_; rintro e w3 ⟨rfl, hb3⟩; have HB3 := Lib.hid hb3; obtain ⟨x0, x1, x2, x3⟩ := blk_cells4 ((hb3.block w.heap.size (by simp)).trans (blk_new _ _)); clear hb3) | (go_at_call 29; refine (H2.out w3 HB3.out).mono ?_; rintro e w4 ⟨rfl, hb4⟩; have HB4 := Lib.hid hb4; clear hb4))
   go_ret
   exact ⟨rfl, below_then (below_then HB.out HB.out.size HB3.out) (below_then HB.out HB.out.size HB3.out).size HB4.out⟩


-- NOT PRINTED: function 31 (api_Wait_31)

-- PXIMPORT YtedbbpefogcjnaaGDev
-- PXIMPORT YtedbbpefogcjnaaGRange
-- PXIMPORT Derived.Shelf.Abstract
-- PXIMPORT Derived.Shelf.RegionOpenPlain
-- PXIMPORT Derived.RangeFuncNested
-- PXIMPORT Derived.RangeFuncBound
-- PXIMPORT Derived.RangeFuncCalls
-- PXIMPORT Derived.RangeFuncLeaves
-- PXIMPORT Derived.OwnWalkIn
-- PXIMPORT Derived.TacticsInMore
-- PXIMPORT Derived.LoopNIn
-- PXIMPORT Derived.LoopIn
/-! ### block_Dev_has: function 20, by hand -/
attribute [local go_sem] Oper.semAt_some
/-- What waits for a block, the last ahead; else the block. -/
def dv_has (D : Dv) (at_ : Int) : ByteArray := match D.w.reverse.find? (fun x => x.f0 == at_) with | some x => x.f1 | none => D.b.getD at_.toNat ByteArray.empty
/-- What comes first, k rounds being over: the places and the waits, from the last on. -/
def bw_up (l : List S39) (k : Nat) : List (Int × S39) := (List.range k).map fun (j : Nat) => ((l.length : Int) - 1 - (j : Int), l.getD (l.length - 1 - j) z39)
theorem bw_up_succ (l : List S39) (k : Nat) : bw_up l (k + 1) = bw_up l k ++ [((l.length : Int) - 1 - (k : Int), l.getD (l.length - 1 - k) z39)] := by simp [bw_up, List.range_succ]
theorem bw_up_length (l : List S39) (k : Nat) : (bw_up l k).length = k := by simp [bw_up]
theorem bw_up_snd (l : List S39) (k : Nat) (hk : k ≤ l.length) : (bw_up l k).map (·.2) = l.reverse.take k := by
 apply List.ext_getElem
 ·simp [bw_up]; omega
 ·intro i h1 h2
  have hi : i < k := by simpa [bw_up] using h1
  simp [bw_up, List.getElem_reverse, List.getElem?_eq_getElem (show l.length - 1 - i < l.length by omega)]
def bw_encs (x : Int × S39) : Array Value := #[.int .i64 x.1, .agg #[.int .i64 x.2.f0, .string x.2.f1]]
set_option maxRecDepth 100000 in
set_option maxHeartbeats 2000000 in
theorem wait_backward1_in (F : Fence) (n : Nat) (hF : F.fn 39) (hro : F.round = none) (hn : 1 ≤ n) (lp Bs n₀ : Nat) (A : Option Addr) (c : Nat) (l : List S39) (J Jx : List (Int × S39) → World → Prop)
  (hY : ∀ pre x W, J pre W → pre.length < l.length → YieldAt F (n - 1) Try.prog lp (bw_encs x) W fun e W' =>
   (e = .returned (.bool true) ∧ J (pre ++ [x]) W' ∧ Below n₀ W W') ∨ (e = .returned (.bool false) ∧ Jx (pre ++ [x]) W'))
  (W : World) (hn₀ : n₀ ≤ W.heap.size) (hBn : Bs < n₀) (hBs : W.cell? ⟨Bs, 0, none⟩ = some (.slice A l.length c)) (hC : Kd.C k39 W A l.length l) (hA : ∀ ad, A = some ad → 0 < l.length → ad.block < n₀) (h0 : J [] W) :
  CallsIn F n Try.prog 39 #[.func (.yield lp) #[] #[], .pointer (some ⟨Bs, 0, none⟩)] W fun e W' => (∃ v, e = .returned v) ∧
   ((∃ ys, ys = bw_up l l.length ∧ J ys W') ∨ (∃ pre, (∃ k, k ≤ l.length ∧ pre = bw_up l k) ∧ Jx pre W')) := by
 have hu := Try.underlying39
 have hmax := hC.2.1
 have HC := Lib.hid hC
 have HA := Lib.hid hA
 have HY := Lib.hid hY
 clear hC hA hY
 refine callsIn_of_wp Try.func39 rfl hF ?_ hro
 simp only [Try.ntmps39, List.size_toArray, List.length_cons, List.length_nil, Nat.reduceAdd, Nat.reduceSub, Array.replicate_succ, Array.replicate_zero, List.push_toArray, List.append_toArray, List.nil_append, List.cons_append]
 gi_wp2
 gi_loopw [3] (fun i wr => ∃ k : Nat, k ≤ l.length ∧ i = .int .i64 ((l.length : Int) - 1 - (k : Int)) ∧ Hid (J (bw_up l k) wr) ∧ Hid (Below n₀ W wr) ∧ wr.cell? ⟨Bs, 0, none⟩ = some (.slice A l.length c))
  (fun i _ => (intOf i + 1).toNat)
 case atStart => exact ⟨0, Nat.zero_le _, by first | rfl | (simp; done) | go_num, Lib.hid h0, Lib.hid (Below.refl _ _), hBs⟩
 case round =>
  clear h0 hBs
  obtain ⟨k, hk, rfl, hJs, hnx, hbs⟩ := hrel
  by_cases hlt : k < l.length
  ·have q0 : (0 : Int) ≤ (l.length : Int) - 1 - (k : Int) := by omega
   have q1 : ((l.length : Int) - 1 - (k : Int)) < (l.length : Int) := by omega
   obtain ⟨ad, e0, hx0, hx1⟩ := at_T39 HC.out ((l.length : Int) - 1 - (k : Int)) q0 q1
   cases e0
   have hab := HA.out ad rfl (by omega)
   replace hx0 := (hnx.out.cell (p := ad.add (((l.length : Int) - 1 - (k : Int)).toNat * 2)) (by rw [show (ad.add (((l.length : Int) - 1 - (k : Int)).toNat * 2)).block = ad.block from by unfold Addr.add; split <;> rfl]; exact hab)).trans hx0
   replace hx1 := (hnx.out.cell (p := ⟨(ad.add (((l.length : Int) - 1 - (k : Int)).toNat * 2)).block, (ad.add (((l.length : Int) - 1 - (k : Int)).toNat * 2)).off + 1, none⟩) (by show (ad.add _).block < n₀; rw [show (ad.add (((l.length : Int) - 1 - (k : Int)).toNat * 2)).block = ad.block from by unfold Addr.add; split <;> rfl]; exact hab)).trans hx1
   have hrd : rd_T39 l ((l.length : Int) - 1 - (k : Int)) = l.getD (l.length - 1 - k) z39 := by
    unfold rd_T39
    rw [show ((l.length : Int) - 1 - (k : Int)).toNat = l.length - 1 - k from by omega]
   rw [hrd] at hx0 hx1
   obtain ⟨i, hi⟩ : ∃ i : Int, i = (l.length : Int) - 1 - (k : Int) := ⟨_, rfl⟩
   have hsuc := bw_up_succ l k
   rw [← hi] at hx0 hx1 q0 q1 hsuc ⊢
   obtain ⟨x, hx⟩ : ∃ x, x = l.getD (l.length - 1 - k) z39 := ⟨_, rfl⟩
   rw [← hx] at hx0 hx1 hsuc
   obtain ⟨fn, tmps, assign, body, hy, hR⟩ := HY.out _ (i, x) wr hJs.out (by rw [bw_up_length]; exact hlt)
   unfold bw_encs at hy
   dsimp only at hy
   have HS := Lib.hid hsuc
   have HI := Lib.hid hi
   have d0 : decide (0 ≤ i) = true := decide_eq_true q0
   clear hsuc hi hx hrd
   gi_wp2
   refine hR.mono ?_
   rintro e W3 (⟨rfl, hJ3, hk3⟩ | ⟨rfl, hJx3⟩)
   ·have HJ3 := Lib.hid hJ3
    have HK3 := Lib.hid hk3
    have hb3 := (hk3.cell (p := ⟨Bs, 0, none⟩) hBn).trans hbs
    clear hJ3 hk3 hbs
    gi_wp2
    have hi := HI.out
    go_roundw
    case rel => exact ⟨k + 1, by omega, by rw [show i - 1 = (l.length : Int) - 1 - ((k + 1 : Nat) : Int) from by omega], Lib.hid (by rw [HS.out]; exact HJ3.out), Lib.hid (hnx.out.trans HK3.out), hb3⟩
    case measure => simp only [intOf]; omega
   ·have HJ3 := Lib.hid hJx3
    clear hJx3
    gi_wp2
    refine bodyPost_ret (results_none rfl _ _ _) rfl ?_
    exact ⟨⟨_, rfl⟩, .inr ⟨_, ⟨k + 1, by omega, HS.out.symm⟩, HJ3.out⟩⟩
  ·obtain rfl : k = l.length := by omega
   have q0 : ¬ (0 : Int) ≤ (l.length : Int) - 1 - (l.length : Int) := by omega
   have d0 : decide (0 ≤ (l.length : Int) - 1 - (l.length : Int)) = false := decide_eq_false q0
   gi_wp2
   go_end0
   exact ⟨⟨_, rfl⟩, by first | exact .inl ⟨_, rfl, hJs.out⟩ | exact .inl hJs.out⟩
set_option maxHeartbeats 400000 in
set_option maxRecDepth 100000 in
theorem wait_backward (A : Option Addr) (n c : Nat) (w : World) :
  Calls Try.prog 31 #[.slice A n c] w fun e w' => e = .returned (.func (.func 39) #[] #[.pointer (some ⟨w.heap.size, 0, none⟩)]) ∧ w' = w.alloc (.cells #[.slice A n c] 23) := by
 have hmf : ∀ (fn : Fn) (first cap : Array Value) (w : World), (Instr.makeFunc fn first cap).run Try.prog w = .ok (.func fn first cap) w := fun _ _ _ _ => rfl
 go_enter Try.func31, Try.ntmps31
 go_wp2
 go_ret
 exact ⟨rfl, rfl⟩
theorem find_none_all {l : List S39} {a : Int} (h : ∀ x ∈ l, x.f0 ≠ a) : l.reverse.find? (fun x => x.f0 == a) = none := by
 rw [List.find?_eq_none]
 intro x hx
 have := h x (List.mem_reverse.1 hx)
 simpa using this
theorem find_first {l : List S39} {a : Int} {k : Nat} (hk : k < l.length) (h : ∀ x ∈ l.reverse.take k, x.f0 ≠ a) (hx : (l.getD (l.length - 1 - k) z39).f0 = a) : l.reverse.find? (fun x => x.f0 == a) = some (l.getD (l.length - 1 - k) z39) := by
 have e : l.reverse = l.reverse.take k ++ l.getD (l.length - 1 - k) z39 :: l.reverse.drop (k + 1) := by
  have h1 : k < l.reverse.length := by simpa using hk
  have h2 : l.reverse[k] = l.getD (l.length - 1 - k) z39 := by
   rw [List.getElem_reverse, List.getD_eq_getElem?_getD, List.getElem?_eq_getElem (by omega)]; rfl
  rw [← h2, ← List.drop_eq_getElem_cons h1, List.take_append_drop]
 rw [e, List.find?_append]
 have h3 : (l.reverse.take k).find? (fun x => x.f0 == a) = none := by
  rw [List.find?_eq_none]
  intro x hx2
  have := h x hx2
  simpa using this
 rw [h3, Option.none_or, List.find?_cons_of_pos (by simpa using hx)]
set_option maxRecDepth 100000 in
set_option maxHeartbeats 2000000 in
/-- What a block of a device that may be read has. -/
theorem dev_has (g : Nat) (D : Dv) (at_ : Int) (w : World) (hD : DR w g D) (h0 : 0 ≤ at_) (h1 : at_ < (D.b.length : Int)) :
  Calls Try.prog 20 #[.pointer (some ⟨g, 0, none⟩), .int .i64 at_] w fun e w' => e = .returned (.string (dv_has D at_)) ∧ Below w.heap.size w w' := by
 have hu := Try.underlying50
 have hu2 := Try.underlying25
 have hgw := hD.lt
 obtain ⟨A1, c1, A2, c2, hrow, hl1, hl2, hC1, hC2⟩ := hD
 obtain ⟨g0, g1, g2, g3⟩ := blk_cells4 hrow
 have n1 : g ≠ w.heap.size := by omega
 have n2 : g ≠ w.heap.size + 1 := by omega
 have HC1 := Lib.hid hC1
 have HC2 := Lib.hid hC2
 have HROW := Lib.hid hrow
 have hA2 : ∀ ad, A2 = some ad → 0 < D.w.length → ad.block < w.heap.size := by
  intro ad e hp
  subst e
  obtain ⟨ad', e1, hx0, _⟩ := at_T39 hC2 0 (Int.le_refl _) (by omega)
  cases e1
  have := World.block_lt_of_cell? w _ hx0
  rwa [show (ad.add ((0 : Int).toNat * 2)).block = ad.block from by unfold Addr.add; split <;> rfl] at this
 have HA2 := Lib.hid hA2
 clear hC1 hC2 hrow hA2
 obtain ⟨r, hr⟩ : ∃ r, r = dv_has D at_ := ⟨_, rfl⟩
 rw [← hr]
 have HR := Lib.hid hr
 clear hr
 refine (callsIn_wide (n := 3)).1 (callsIn_of_wp_marks Try.func20 rfl trivial ?_)
 simp only [Try.ntmps20, List.size_toArray, List.length_cons, List.length_nil, Nat.reduceAdd, Nat.reduceSub, Array.replicate_succ, Array.replicate_zero, List.push_toArray, List.append_toArray, List.nil_append, List.cons_append]
 gi_wp2_with (first | (refine ⟨trivial, ?_⟩; gi_at_call 31; refine ((callsIn_wide (n := 2)).2 (wait_backward _ _ _ _)).mono ?_; rintro e w5 ⟨rfl, rfl⟩))
 have eg : ∀ args w, (callFunc 39 args).run Try.prog w = .ok (.enter 39 args) w := enters_of Try.func39 (by kernel_rfl) rfl
 have hz0 : (((w.alloc (.cells #[.int .i64 at_] 3)).alloc (.cells #[.string ⟨#[]⟩] 9)).alloc (.cells #[.slice A2 D.w.length c2] 23)).heap.size = w.heap.size + 3 := by simp
 have hb0 : Below w.heap.size w (((w.alloc (.cells #[.int .i64 at_] 3)).alloc (.cells #[.string ⟨#[]⟩] 9)).alloc (.cells #[.slice A2 D.w.length c2] 23)) := below_alloc (below_alloc (below_alloc (Below.refl _ _) _) _) _
 have k3 : (((w.alloc (.cells #[.int .i64 at_] 3)).alloc (.cells #[.string ⟨#[]⟩] 9)).alloc (.cells #[.slice A2 D.w.length c2] 23)).heap[w.heap.size]? = some (.cells #[.int .i64 at_] 3 (0, 0)) := blk_alloc (blk_alloc (blk_new _ _) _) _
 have k4 : (((w.alloc (.cells #[.int .i64 at_] 3)).alloc (.cells #[.string ⟨#[]⟩] 9)).alloc (.cells #[.slice A2 D.w.length c2] 23)).heap[w.heap.size + 1]? = some (.cells #[.string ⟨#[]⟩] 9 (0, 0)) := blk_alloc (by have := blk_new (w.alloc (.cells #[.int .i64 at_] 3)) (.cells #[.string ⟨#[]⟩] 9); rwa [World.size_alloc] at this) _
 have k5 : (((w.alloc (.cells #[.int .i64 at_] 3)).alloc (.cells #[.string ⟨#[]⟩] 9)).alloc (.cells #[.slice A2 D.w.length c2] 23)).heap[w.heap.size + 1 + 1]? = some (.cells #[.slice A2 D.w.length c2] 23 (0, 0)) := by have := blk_new ((w.alloc (.cells #[.int .i64 at_] 3)).alloc (.cells #[.string ⟨#[]⟩] 9)) (.cells #[.slice A2 D.w.length c2] 23); simpa only [World.size_alloc] using this
 generalize (((w.alloc (.cells #[.int .i64 at_] 3)).alloc (.cells #[.string ⟨#[]⟩] 9)).alloc (.cells #[.slice A2 D.w.length c2] 23)) = W0 at hz0 hb0 k3 k4 k5 ⊢
 obtain ⟨s, hs⟩ : ∃ s, s = w.heap.size := ⟨_, rfl⟩
 rw [← hs] at hz0 hb0 k3 k4 k5 n1 n2 hgw ⊢
 have d3 := blk_cell k3 0
 have d4 := blk_cell k4 0
 have f4 := blk_frozen k4 0
 have d5 := blk_cell k5 0
 simp only [List.getElem?_toArray, List.getElem?_cons_zero] at d3 d4 d5
 have HSZ := Lib.hid hs
 clear k3 k4 k5 hs
 refine wpIn_rangeFunc_ownH (α := Int × S39) rfl (by omega) (gf := 39) (lb := #[.pointer (some ⟨s + 1 + 1, 0, none⟩)]) rfl trivial eg
  (encs := bw_encs) (Kp := Below W0.heap.size) (S := fun ys => ys = bw_up D.w D.w.length) (Sp := fun pre => ∃ k, k ≤ D.w.length ∧ pre = bw_up D.w k) (N := D.w.length) (w0 := W0)
  (fun lp J Jx W hbW _ _ hY h0' => wait_backward1_in Fence.wide 2 trivial rfl (by omega) lp (s + 1 + 1) W0.heap.size A2 c2 D.w J Jx hY W hbW.size (by omega) ((hbW.cell (p := ⟨s + 1 + 1, 0, none⟩) (by simp only; omega)).trans d5) (Kd.C_below HC2.out (by rw [← HSZ.out]; exact hb0.trans (hbW.mono (by omega)))) (fun ad e hp => Nat.lt_of_lt_of_le (HA2.out ad e hp) (by have := HSZ.out; omega)) h0')
  belowK_t (belowK_b (Nat.le_refl _)) (Below.refl _ _) (fun _ => rfl)
  (fun pre W => (∀ y ∈ pre, y.2.f0 ≠ at_) ∧ Below W0.heap.size W0 W)
  (fun c pre W => (c = .ret ∧ ∃ ini last, pre = ini ++ [last] ∧ (∀ y ∈ ini, y.2.f0 ≠ at_) ∧ last.2.f0 = at_ ∧ W.cell? ⟨s + 1, 0, none⟩ = some (.string last.2.f1)) ∧ Below s w W)
  (OwnFrom.and (ownFrom_pure _ (fun pre : List (Int × S39) => ∀ y ∈ pre, y.2.f0 ≠ at_)) (ownFrom_below (Nat.le_refl _) (Nat.le_refl _)))
  (fun c => OwnFrom.and (Own.from (fun pre A B row hs hg hr => by obtain ⟨hc, ini, last, e1, e2, e3, e4⟩ := hs; exact ⟨hc, ini, last, e1, e2, e3, cell_kept e4 hg hr⟩) _) (ownFrom_below (Nat.le_of_eq HSZ.out) (by omega)))
  ⟨by simp, Below.refl _ _⟩
  (fun x a' W => ∃ Bx, s + 3 ≤ Bx ∧ W.cell? ⟨Bx, 0, none⟩ = some (.int .i64 x.2.f0) ∧ W.cell? ⟨Bx, 1, none⟩ = some (.string x.2.f1) ∧ a' = { tmps := #[.pointer (some ⟨g, 0, none⟩), .int .i64 at_, undef, .pointer (some ⟨s, 0, none⟩), .pointer (some ⟨s + 1, 0, none⟩), undef, .pointer (some ⟨Bx, 0, none⟩), .pointer (some ⟨g, 0, none⟩), .pointer (some ⟨g, 0, none⟩), .pointer (some ⟨g, 0, none⟩), .pointer (some ⟨g, 1, none⟩), .slice A2 D.w.length c2, .func (.func 39) #[] #[.pointer (some ⟨s + 1 + 1, 0, none⟩)], .int .i64 x.1, .agg #[.int .i64 x.2.f0, .string x.2.f1], undef, undef, undef, undef, undef, undef, undef, undef, undef, undef, undef, undef, undef, undef], defers := [] })
  (fun x a' => Own.from (fun _ A B row hs hg hr => by obtain ⟨Bx, e1, e2, e3, e4⟩ := hs; exact ⟨Bx, e1, cell_kept e2 hg hr, cell_kept e3 hg hr, e4⟩) _)
  ?assign ?body ?done ?stop
 case assign =>
  rintro l pre x W K ⟨hp, hB⟩ hK
  have hsz := hB.size
  unfold bw_encs
  gi_wp2
  have hbl := below_alloc (Below.refl W.heap.size W) (.cells #[.int .i64 x.2.f0, .string x.2.f1] 39)
  obtain ⟨q0, q1⟩ := (show (W.alloc (.cells #[.int .i64 x.2.f0, .string x.2.f1] 39)).cell? ⟨W.heap.size, 0, none⟩ = some (.int .i64 x.2.f0) ∧ (W.alloc (.cells #[.int .i64 x.2.f0, .string x.2.f1] 39)).cell? ⟨W.heap.size, 1, none⟩ = some (.string x.2.f1) from ⟨blk_cell (blk_new _ _) 0, blk_cell (blk_new _ _) 1⟩)
  exact hK _ _ ((KeepsOthers.alloc _ _).from _) (hbl.mono hsz) ⟨hp, hB.trans (hbl.mono hsz)⟩ ⟨W.heap.size, by omega, q0, q1, rfl⟩
 case body =>
  rintro l pre x a' W hl ⟨r, hr⟩ ⟨hp, hB⟩ ⟨Bx, hBx, hx0, hx1, rfl⟩ hlt
  have e3 := (hB.cell (p := ⟨s, 0, none⟩) (by simp only; omega)).trans d3
  have e4 := (hB.cell (p := ⟨s + 1, 0, none⟩) (by simp only; omega)).trans d4
  have g4 := (hB.frozen (p := ⟨s + 1, 0, none⟩) (by simp only; omega)).trans f4
  have HB := Lib.hid hB
  have HP := Lib.hid hp
  clear hB hp hr
  obtain ⟨xi, x0, x1⟩ := x
  simp only at hx0 hx1 ⊢
  by_cases hx : x0 = at_
  ·subst hx
   gi_wp2
   exact ⟨(KeepsOthers.setCell _ _ _).from _, ⟨rfl, pre, (xi, ⟨x0, x1⟩), rfl, HP.out, rfl, World.cell?_setCell_same' _ _ _ (by rw [e4]; rfl)⟩, (hb0.trans (HB.out.mono (by omega))).setCell (p := ⟨s + 1, 0, none⟩) (by simp only; omega) _⟩
  ·have hx2 : (x0 == at_) = false := beq_eq_false_iff_ne.mpr hx
   gi_wp2
   exact ⟨KeepsFrom.refl _ _, Below.refl _ _, fun y hy => (List.mem_append.1 hy).elim (HP.out y) (fun e => by simp at e; subst e; exact hx), HB.out⟩
 case done =>
  rintro D' ys W hD rfl ⟨hne, hB⟩ hK
  have e3 := (hB.cell (p := ⟨s, 0, none⟩) (by simp only; omega)).trans d3
  have e4 := (hB.cell (p := ⟨s + 1, 0, none⟩) (by simp only; omega)).trans d4
  have g4 := (hB.frozen (p := ⟨s + 1, 0, none⟩) (by simp only; omega)).trans f4
  have hbw : Below s w W := hb0.trans (hB.mono (by omega))
  have k0 := (hbw.cell (p := ⟨g, 0, none⟩) hgw).trans g0
  obtain ⟨ad, rfl, hx⟩ := Kd.at_string HC1.out at_ h0 h1
  replace hx := (hbw.cell (p := ad.add at_.toNat) (by have := World.block_lt_of_cell? w _ hx; have := HSZ.out; omega)).trans hx
  have hv : rdOf ByteArray.empty D.b at_ = r := by
   rw [HR.out]
   unfold dv_has rdOf
   rw [find_none_all (fun x hx => by
    have hm : x ∈ (bw_up D.w D.w.length).map (·.2) := by
     rw [bw_up_snd _ _ (Nat.le_refl _), List.take_of_length_le (by simp)]
     exact List.mem_reverse.2 hx
    obtain ⟨y, hy, rfl⟩ := List.mem_map.1 hm
    exact hne y hy)]
  rw [hv] at hx
  have mixed : Try.prog.follows Departure.mixedOrders = true := by kernel_rfl
  have HK := Lib.hid hK
  have HBW := Lib.hid hbw
  clear hK hne hB hbw hv
  gi_wp2
  refine (wpIn_wide (n := 3)).2 (wp_byEnd ?_)
  go_region_o
  all_goals refine byEnd_normal ?_
  all_goals gi_wp2
  all_goals
   have hK' : ((W.setCell ⟨s + 1, 0, none⟩ (.string r)).drew).heap[D']? = some (.deferred (some [])) := (KeepsOthers.setCell W ⟨s + 1, 0, none⟩ (.string r)).same D' _ HK.out rfl
   refine ⟨by simp, .inl ⟨_, _, rfl, run_takeDeferred hK', ?_⟩⟩
   have hc5 := cell_kept (W := (W.setCell ⟨s + 1, 0, none⟩ (.string r)).drew) (show ((W.setCell ⟨s + 1, 0, none⟩ (.string r)).drew).cell? ⟨s + 1, 0, none⟩ = some (.string r) from World.cell?_setCell_same' W ⟨s + 1, 0, none⟩ (.string r) (by rw [e4]; rfl)) (grownBy_putObj' _ D' (.deferred none)) (fun r e => by cases e; exact ⟨_, hK', rfl⟩)
   refine ⟨.string r, ?_, rfl, by rw [← HSZ.out]; exact (below_drew1 (HBW.out.setCell (p := ⟨s + 1, 0, none⟩) (by simp only; omega) _)).trans (belowK_b (w := W0) (by omega) _ D' _ _ (by omega) hK' rfl rfl)⟩
   simp [results, Try.results20, go_sem, hc5]
 case stop =>
  rintro D' c pre W hD ⟨k, hk, rfl⟩ ⟨⟨rfl, ini, last, e1, e2, e3, hcr⟩, hB⟩ hK
  gi_wp2
  refine ⟨by simp, .inl ⟨_, _, rfl, run_takeDeferred hK, ?_⟩⟩
  have hc5 := cell_kept hcr (grownBy_putObj' _ D' (.deferred none)) (fun r e => by cases e; exact ⟨_, hK, rfl⟩)
  obtain ⟨k', rfl⟩ : ∃ k', k = k' + 1 := by
   cases k with
   | zero => simp [bw_up] at e1
   | succ k' => exact ⟨k', rfl⟩
  rw [bw_up_succ] at e1
  obtain ⟨rfl, e5⟩ := List.append_inj' e1 rfl
  injection e5 with e5
  subst e5
  have hv : (D.w.getD (D.w.length - 1 - k') z39).f1 = r := by
   rw [HR.out]
   unfold dv_has
   rw [find_first (k := k') (by omega) (fun x hx => by
    have hm : x ∈ (bw_up D.w k').map (·.2) := by
     rw [bw_up_snd _ _ (by omega)]
     exact hx
    obtain ⟨y, hy, rfl⟩ := List.mem_map.1 hm
    exact e2 y hy) e3]
  refine ⟨.string r, ?_, rfl, by rw [← HSZ.out]; exact hB.trans (belowK_b (w := W0) (by omega) W D' _ _ (by omega) hK rfl rfl)⟩
  simp only [hv] at hc5
  simp [results, Try.results20, go_sem, hc5]

/-- A state of type 50 at block g of W; what its slices lead to came in by w0. -/
def IsS50 (w0 W : World) (g : Nat) (f0 : List ByteArray) (f1 : List (S39)) (f2 : Int) (f3 : Bool) : Prop := ∃ A0 c0, ∃ A1 c1, W.heap[g]? = some (.cells #[.slice A0 f0.length c0, .slice A1 f1.length c1, .int .i64 f2, .bool f3] 50 (0, 0)) ∧ w0.heap.size ≤ g ∧ Kd.C Kd.string w0 A0 f0.length f0 ∧ Kd.C k39 w0 A1 f1.length f1
theorem IsS50.grown {w0 W : World} {g : Nat} {f0 : List ByteArray} {f1 : List (S39)} {f2 : Int} {f3 : Bool} {W1 : World} {row : Option Nat} (h : IsS50 w0 W g f0 f1 f2 f3) (hw : W.grownBy W1 row) (hne : some g ≠ row) : IsS50 w0 W1 g f0 f1 f2 f3 := by
 obtain ⟨A0, c0, A1, c1, hb, hg, hr0, hr1⟩ := h
 exact ⟨A0, c0, A1, c1, blk_grown hb hw hne, hg, hr0, hr1⟩
theorem IsS50.own_neN {w0 W : World} {g : Nat} {f0 : List ByteArray} {f1 : List (S39)} {f2 : Int} {f3 : Bool} {α : Type} {d : Kd α} {e : Nat} {base : Nat} {ok : Nat → Prop} {v : Value} {xs : List α} (h : IsS50 w0 W g f0 f1 f2 f3) (ho : Kd.N d e W base ok v xs) (ht : e ≠ 50) : some g ≠ v.ownBlock := by
 obtain ⟨A0, c0, A1, c1, hb, hg, hr0, hr1⟩ := h
 exact Kd.N_ne ho hb ht
theorem IsS50.fresh {w0 W : World} {g : Nat} {f0 : List ByteArray} {f1 : List (S39)} {f2 : Int} {f3 : Bool} (h : IsS50 w0 W g f0 f1 f2 f3) : ∀ k, W.heap.size ≤ k → k ≠ g := by
 obtain ⟨A0, c0, A1, c1, hb, hg, hr0, hr1⟩ := h
 exact Kd.freshB hb
theorem IsS50.kept {w0 W : World} {g : Nat} {f0 : List ByteArray} {f1 : List (S39)} {f2 : Int} {f3 : Bool} {W1 : World} {S : Nat → Prop} (h : IsS50 w0 W g f0 f1 f2 f3) (hk : Kept W W1 S) (hne : ¬ S g) : IsS50 w0 W1 g f0 f1 f2 f3 := by
 obtain ⟨A0, c0, A1, c1, hb, hg, hr0, hr1⟩ := h
 exact ⟨A0, c0, A1, c1, blk_kept hb hk hne, hg, hr0, hr1⟩
theorem IsS50.below {w0 W : World} {g : Nat} {f0 : List ByteArray} {f1 : List (S39)} {f2 : Int} {f3 : Bool} {W1 : World} (h : IsS50 w0 W g f0 f1 f2 f3) (hw : Below W.heap.size W W1) : IsS50 w0 W1 g f0 f1 f2 f3 := h.grown (grown_of_below hw none) (by simp)
theorem IsS50.alloc {w0 W : World} {g : Nat} {f0 : List ByteArray} {f1 : List (S39)} {f2 : Int} {f3 : Bool} (h : IsS50 w0 W g f0 f1 f2 f3) (o : Obj) : IsS50 w0 (W.alloc o) g f0 f1 f2 f3 := h.below (below_alloc (Below.refl _ _) o)
theorem IsS50.drewN {w0 W : World} {g : Nat} {f0 : List ByteArray} {f1 : List (S39)} {f2 : Int} {f3 : Bool} (h : IsS50 w0 W g f0 f1 f2 f3) (m : Nat) : IsS50 w0 (W.drewN m) g f0 f1 f2 f3 := h
theorem IsS50.drew {w0 W : World} {g : Nat} {f0 : List ByteArray} {f1 : List (S39)} {f2 : Int} {f3 : Bool} (h : IsS50 w0 W g f0 f1 f2 f3) : IsS50 w0 W.drew g f0 f1 f2 f3 := h
theorem IsS50.at_ {w0 W : World} {g : Nat} {f0 : List ByteArray} {f1 : List (S39)} {f2 : Int} {f3 : Bool} {w' : World} {m : Nat} (hq : W.drewN m = w') (h : IsS50 w0 W g f0 f1 f2 f3) : IsS50 w0 w' g f0 f1 f2 f3 := by subst hq; exact IsS50.drewN h m
theorem IsS50.apart {w0 W : World} {g : Nat} {f0 : List ByteArray} {f1 : List (S39)} {f2 : Int} {f3 : Bool} {α : Type} {d : Kd α} {e : Nat} {base : Nat} {ok : Nat → Prop} {v : Value} {xs : List α} (h : IsS50 w0 W g f0 f1 f2 f3) (ho : d.R e W base ok v xs) (ht : ∀ q, q ∈ e :: d.E → q ≠ 50) : d.R e W base (fun k => ok k ∧ k ≠ g) v xs := by
 obtain ⟨A0, c0, A1, c1, hb, hg, hr0, hr1⟩ := h
 exact Kd.R_types ho hb ht
theorem IsS50.own_ne {w0 W : World} {g : Nat} {f0 : List ByteArray} {f1 : List (S39)} {f2 : Int} {f3 : Bool} {α : Type} {d : Kd α} {e : Nat} {base : Nat} {ok : Nat → Prop} {v : Value} {xs : List α} (h : IsS50 w0 W g f0 f1 f2 f3) (ho : d.R e W base ok v xs) (ht : e ≠ 50) : some g ≠ v.ownBlock := by
 obtain ⟨A0, c0, A1, c1, hb, hg, hr0, hr1⟩ := h
 exact Kd.R_ne ho hb ht
theorem IsS50.apartQ {w0 W : World} {g : Nat} {f0 : List ByteArray} {f1 : List (S39)} {f2 : Int} {f3 : Bool} {α : Type} {d : Kd α} {e : Nat} {base : Nat} {ok : Nat → Prop} {v : Value} {xs : List α} (h : IsS50 w0 W g f0 f1 f2 f3) (ho : d.Q e W base ok v xs) (ht : ∀ q, q ∈ e :: d.E → q ≠ 50) : d.Q e W base (fun k => ok k ∧ k ≠ g) v xs := by
 obtain ⟨A0, c0, A1, c1, hb, hg, hr0, hr1⟩ := h
 exact Kd.Q_types ho hb ht
theorem IsS50.own_neQ {w0 W : World} {g : Nat} {f0 : List ByteArray} {f1 : List (S39)} {f2 : Int} {f3 : Bool} {α : Type} {d : Kd α} {e : Nat} {base : Nat} {ok : Nat → Prop} {v : Value} {xs : List α} (h : IsS50 w0 W g f0 f1 f2 f3) (ho : d.Q e W base ok v xs) (ht : e ≠ 50) : some g ≠ v.ownBlock := by
 obtain ⟨A0, c0, A1, c1, hb, hg, hr0, hr1⟩ := h
 exact Kd.Q_ne ho hb ht
theorem IsS50.apartS {w0 W : World} {g : Nat} {f0 : List ByteArray} {f1 : List (S39)} {f2 : Int} {f3 : Bool} {α : Type} {d : Kd α} {e : Nat} {base : Nat} {ok : Nat → Prop} {v : Value} {xs : List α} (h : IsS50 w0 W g f0 f1 f2 f3) (ho : d.S e W base ok v xs) (ht : ∀ q, q ∈ e :: d.E → q ≠ 50) : d.S e W base (fun k => ok k ∧ k ≠ g) v xs := by
 obtain ⟨A0, c0, A1, c1, hb, hg, hr0, hr1⟩ := h
 exact Kd.S_types ho hb ht
theorem IsS50.own_neS {w0 W : World} {g : Nat} {f0 : List ByteArray} {f1 : List (S39)} {f2 : Int} {f3 : Bool} {α : Type} {d : Kd α} {e : Nat} {base : Nat} {ok : Nat → Prop} {v : Value} {xs : List α} (h : IsS50 w0 W g f0 f1 f2 f3) (ho : d.S e W base ok v xs) (ht : e ≠ 50) : some g ≠ v.ownBlock := by
 obtain ⟨A0, c0, A1, c1, hb, hg, hr0, hr1⟩ := h
 exact Kd.S_ne ho hb ht
theorem IsS50.lt {w0 W : World} {g : Nat} {f0 : List ByteArray} {f1 : List (S39)} {f2 : Int} {f3 : Bool} (h : IsS50 w0 W g f0 f1 f2 f3) : g < W.heap.size := by
 obtain ⟨A0, c0, A1, c1, hb, hg, hr0, hr1⟩ := h
 exact blk_lt hb
theorem IsS50.ge {w0 W : World} {g : Nat} {f0 : List ByteArray} {f1 : List (S39)} {f2 : Int} {f3 : Bool} (h : IsS50 w0 W g f0 f1 f2 f3) : w0.heap.size ≤ g := by
 obtain ⟨A0, c0, A1, c1, hb, hg, hr0, hr1⟩ := h
 exact hg
theorem IsS50.ne_blk {w0 W : World} {g : Nat} {f0 : List ByteArray} {f1 : List (S39)} {f2 : Int} {f3 : Bool} {a : Nat} {cs : Array Value} {t : TypeId} {fr : Nat × Nat} (h : IsS50 w0 W g f0 f1 f2 f3) (hb2 : W.heap[a]? = some (.cells cs t fr)) (ht : t ≠ 50) : g ≠ a := by
 obtain ⟨A0, c0, A1, c1, hb, hg, hr0, hr1⟩ := h
 rintro rfl
 rw [hb] at hb2
 injection hb2 with hb2
 injection hb2 with _ ht2
 exact ht ht2.symm
theorem IsS50.far {w0 W : World} {g : Nat} {f0 : List ByteArray} {f1 : List (S39)} {f2 : Int} {f3 : Bool} {p : Addr} (h : IsS50 w0 W g f0 f1 f2 f3) (hne : g ≠ p.block) (u : Value) : IsS50 w0 (W.setCell p u) g f0 f1 f2 f3 := by
 obtain ⟨A0, c0, A1, c1, hb, hg, hr0, hr1⟩ := h
 exact ⟨A0, c0, A1, c1, blk_far hb hne u, hg, hr0, hr1⟩
theorem cellS50_0 {W : World} {g : Nat} {A0 : Option Addr} {c0 : Nat} {A1 : Option Addr} {c1 : Nat} {f0 : List ByteArray} {f1 : List (S39)} {f2 : Int} {f3 : Bool} (h : W.heap[g]? = some (.cells #[.slice A0 f0.length c0, .slice A1 f1.length c1, .int .i64 f2, .bool f3] 50 (0, 0))) : W.cell? ⟨g, 0, none⟩ = some (.slice A0 f0.length c0) := (blk_cell h 0).trans rfl
theorem cellS50_1 {W : World} {g : Nat} {A0 : Option Addr} {c0 : Nat} {A1 : Option Addr} {c1 : Nat} {f0 : List ByteArray} {f1 : List (S39)} {f2 : Int} {f3 : Bool} (h : W.heap[g]? = some (.cells #[.slice A0 f0.length c0, .slice A1 f1.length c1, .int .i64 f2, .bool f3] 50 (0, 0))) : W.cell? ⟨g, 1, none⟩ = some (.slice A1 f1.length c1) := (blk_cell h 1).trans rfl
theorem cellS50_2 {W : World} {g : Nat} {A0 : Option Addr} {c0 : Nat} {A1 : Option Addr} {c1 : Nat} {f0 : List ByteArray} {f1 : List (S39)} {f2 : Int} {f3 : Bool} (h : W.heap[g]? = some (.cells #[.slice A0 f0.length c0, .slice A1 f1.length c1, .int .i64 f2, .bool f3] 50 (0, 0))) : W.cell? ⟨g, 2, none⟩ = some (.int .i64 f2) := (blk_cell h 2).trans rfl
theorem IsS50.set_2 {w0 W : World} {g : Nat} {f0 : List ByteArray} {f1 : List (S39)} {f2 : Int} {f3 : Bool} (h : IsS50 w0 W g f0 f1 f2 f3) (x : Int) : IsS50 w0 (W.setCell ⟨g, 2, none⟩ (.int .i64 x)) g f0 f1 x f3 := by
 obtain ⟨A0, c0, A1, c1, hb, hg, hr0, hr1⟩ := h
 exact ⟨A0, c0, A1, c1, by simpa using blk_set hb 2 (.int .i64 x), hg, hr0, hr1⟩
theorem cellS50_3 {W : World} {g : Nat} {A0 : Option Addr} {c0 : Nat} {A1 : Option Addr} {c1 : Nat} {f0 : List ByteArray} {f1 : List (S39)} {f2 : Int} {f3 : Bool} (h : W.heap[g]? = some (.cells #[.slice A0 f0.length c0, .slice A1 f1.length c1, .int .i64 f2, .bool f3] 50 (0, 0))) : W.cell? ⟨g, 3, none⟩ = some (.bool f3) := (blk_cell h 3).trans rfl
theorem IsS50.set_3 {w0 W : World} {g : Nat} {f0 : List ByteArray} {f1 : List (S39)} {f2 : Int} {f3 : Bool} (h : IsS50 w0 W g f0 f1 f2 f3) (x : Bool) : IsS50 w0 (W.setCell ⟨g, 3, none⟩ (.bool x)) g f0 f1 f2 x := by
 obtain ⟨A0, c0, A1, c1, hb, hg, hr0, hr1⟩ := h
 exact ⟨A0, c0, A1, c1, by simpa using blk_set hb 3 (.bool x), hg, hr0, hr1⟩
theorem IsS50.new (w0 W : World) (A0 : Option Addr) (c0 : Nat) (A1 : Option Addr) (c1 : Nat) (f0 : List ByteArray) (f1 : List (S39)) (f2 : Int) (f3 : Bool) (hB : Below w0.heap.size w0 W) (hr0 : Kd.C Kd.string w0 A0 f0.length f0) (hr1 : Kd.C k39 w0 A1 f1.length f1) : IsS50 w0 (W.alloc (.cells #[.slice A0 f0.length c0, .slice A1 f1.length c1, .int .i64 f2, .bool f3] 50)) W.heap.size f0 f1 f2 f3 := ⟨A0, c0, A1, c1, by simpa using heap_alloc_new W _, hB.size, hr0, hr1⟩

/-! ### block_Dev_there: function 36 -/
def block_Dev_there.f (s0_0 : List ByteArray) (s0_1 : List (S39)) (s0_2 : Int) (s0_3 : Bool) (a1 : Int) : Option (Bool × Int × Bool) := if a1 ≥ 0 then (some (decide (a1 < (s0_0.length : Int)), s0_2, s0_3)) else (some (false, s0_2, s0_3))
set_option maxHeartbeats 8000000 in
set_option maxRecDepth 100000 in
theorem block_Dev_there.calls (g : Nat) (s0_0 : List ByteArray) (s0_1 : List (S39)) (s0_2 : Int) (s0_3 : Bool) (a1 : Int) (r1 : Bool) (r2 : Int) (r3 : Bool) (w0 w : World) (hI : IsS50 w0 w g s0_0 s0_1 s0_2 s0_3) (hB : Below w0.heap.size w0 w) (h : block_Dev_there.f s0_0 s0_1 s0_2 s0_3 a1 = some (r1, r2, r3)) :
  Calls Try.prog 36 #[.pointer (some ⟨g, 0, none⟩), .int .i64 a1] w fun e w' => e = .returned (.bool r1) ∧ IsS50 w0 w' g s0_0 s0_1 r2 r3 ∧ Below w0.heap.size w0 w' ∧ KeepBut w w' g none := by
 have HI0 := Aside0.mk hI
 have HK := Aside0.mk (KeepBut.refl w g none)
 have HL := Aside0.mk hB.size
 clear hI
 have HW0 := Aside0.mk hB.size
 have HB := Aside0.mk hB
 clear hB
 have H : (if a1 ≥ 0 then (some (decide (a1 < (s0_0.length : Int)), s0_2, s0_3)) else (some (false, s0_2, s0_3))) = some (r1, r2, r3) := h
 clear h
 by_cases c3 : a1 ≥ 0
 ·rw [if_pos c3] at H
  have c3b0 : decide (0 ≤ a1) = true := decide_eq_true c3
  clear c3
  simp only [Option.some.injEq, Prod.mk.injEq] at H
  obtain ⟨rfl, rfl, rfl⟩ := H
  obtain ⟨ASz4_0, cSz4_0, ASz4_1, cSz4_1, HGz4, hgz4, HSz4_0, HSz4_1⟩ := HI0.out
  have hcz4_0 := cellS50_0 HGz4
  have hcz4_1 := cellS50_1 HGz4
  have hcz4_2 := cellS50_2 HGz4
  have hcz4_3 := cellS50_3 HGz4
  have hfz4_2 := blk_frozen HGz4 2
  have hfz4_3 := blk_frozen HGz4 3
  clear HGz4 hgz4
  go_enter Try.func36, Try.ntmps36
  go_wp2
  go_ret
  exact ⟨by first | rfl | (simp [errW_none, errW_some] <;> rfl) | (simp [*, errW_none, errW_some] <;> rfl), by repeat (first | (with_reducible first | exact HI0.out | apply IsS50.alloc | apply IsS50.drewN | apply IsS50.drew | apply IsS50.set_2 | apply IsS50.set_3) | exact HI0.out), by repeat (first | (with_reducible first | exact HB.out | apply below_alloc | apply pw_below_drewN | apply below_drew1 | refine below_set ?_ (IsS50.ge HI0.out)) | exact HB.out), by repeat (first | (with_reducible first | exact HK.out | apply KeepBut.set_ | apply keep_drewN | apply keep_drew | apply keep_alloc) | exact HK.out)⟩
 ·rw [if_neg c3] at H
  have c3b0 : decide (0 ≤ a1) = false := decide_eq_false c3
  clear c3
  simp only [Option.some.injEq, Prod.mk.injEq] at H
  obtain ⟨rfl, rfl, rfl⟩ := H
  go_enter Try.func36, Try.ntmps36
  go_wp2
  go_ret
  exact ⟨by first | rfl | (simp [errW_none, errW_some] <;> rfl) | (simp [*, errW_none, errW_some] <;> rfl), by repeat (first | (with_reducible first | exact HI0.out | apply IsS50.alloc | apply IsS50.drewN | apply IsS50.drew | apply IsS50.set_2 | apply IsS50.set_3) | exact HI0.out), by repeat (first | (with_reducible first | exact HB.out | apply below_alloc | apply pw_below_drewN | apply below_drew1 | refine below_set ?_ (IsS50.ge HI0.out)) | exact HB.out), by repeat (first | (with_reducible first | exact HK.out | apply KeepBut.set_ | apply keep_drewN | apply keep_drew | apply keep_alloc) | exact HK.out)⟩

-- PXIMPORT YtedbbpefogcjnaaGDev
/-! ### block_Dev_asks: function 35, by hand -/
def dv_asks (D : Dv) : Dv × Int := if D.f = 0 then (⟨D.b, D.w, D.f, true⟩, 9) else (⟨D.b, D.w, if D.f = -1 then -1 else D.f - 1, D.d⟩, 0)
theorem DQ.put {P : Nat → Prop} {g : Nat} {w : World} {D : Dv} (h : DQ P g w D) (i : Nat) (u : Value) (D' : Dv) (hb : D'.b = D.b) (hw : D'.w = D.w) (hc : ∀ v1 v2, (#[v1, v2, .int .i64 D.f, .bool D.d] : Array Value).setIfInBounds i u = #[v1, v2, .int .i64 D'.f, .bool D'.d]) : DQ P g (w.setCell ⟨g, i, none⟩ u) D' := by
 obtain ⟨h1, v1, v2, h2, h3, h4, h5, h6⟩ := h
 have hs := blk_set h2 i u
 rw [hc] at hs
 have n1 : ∀ k, v1.ownBlock = some k → k ≠ g := fun k hk e => by
  obtain ⟨cur, hcur⟩ := h5.typed k hk
  rw [e, h2] at hcur
  cases hcur
 have n2 : ∀ k, v2.ownBlock = some k → k ≠ g := fun k hk e => by
  obtain ⟨cur, hcur⟩ := h6.typed k hk
  rw [e, h2] at hcur
  cases hcur
 refine ⟨h1, v1, v2, hs, h3, h4, ?_, ?_⟩
 ·rw [hb]; exact h5.moved (fun k hk => Below.heap_setCell _ ⟨g, i, none⟩ _ k (n1 k hk))
 ·rw [hw]; exact h6.moved (fun k hk => Below.heap_setCell _ ⟨g, i, none⟩ _ k (n2 k hk))
set_option maxHeartbeats 800000 in
set_option maxRecDepth 100000 in
theorem dev_asks (P : Nat → Prop) (g : Nat) (D : Dv) (w : World) (hq : DQ P g w D) (hf : -1 ≤ D.f) (hf2 : D.f ≤ 9223372036854775807) :
  Calls Try.prog 35 #[.pointer (some ⟨g, 0, none⟩)] w fun e w' => e = .returned (.int .i64 (dv_asks D).2) ∧ DQ P g w' (dv_asks D).1 ∧ Mv P w w' := by
 have hu := Try.underlying50
 have hu2 := Try.underlying25
 have hPg : P g := hq.1
 have HQ := Lib.hid hq
 obtain ⟨A1, c1, A2, c2, hrow, _⟩ := hq.all
 obtain ⟨g0, g1, g2, g3⟩ := blk_cells4 hrow
 have f2 := blk_frozen hrow 2
 have f3 := blk_frozen hrow 3
 clear hq hrow
 unfold dv_asks
 obtain ⟨db, dw, df, dd⟩ := D
 simp only at *
 by_cases c0 : df = 0
 ·subst c0
  rw [if_pos rfl]
  go_enter Try.func35, Try.ntmps35
  go_wp2
  go_ret
  exact ⟨rfl, HQ.out.put 3 _ _ rfl rfl (fun _ _ => by simp), (Mv.refl P w).set (p := ⟨g, 3, none⟩) (.inl hPg) _⟩
 ·rw [if_neg c0]
  have d0 : (df == 0) = false := beq_eq_false_iff_ne.mpr c0
  by_cases c1 : df = -1
  ·subst c1
   rw [if_pos rfl]
   go_enter Try.func35, Try.ntmps35
   go_wp2
   go_ret
   exact ⟨rfl, HQ.out.put 2 _ _ rfl rfl (fun _ _ => by simp), (Mv.refl P w).set (p := ⟨g, 2, none⟩) (.inl hPg) _⟩
  ·rw [if_neg c1]
   have hm : max (-1) (df - 1) = df - 1 := by omega
   have hp : 0 < df := by omega
   go_enter Try.func35, Try.ntmps35
   go_wp2
   go_ret
   exact ⟨rfl, HQ.out.put 2 _ _ rfl rfl (fun _ _ => by simp), (Mv.refl P w).set (p := ⟨g, 2, none⟩) (.inl hPg) _⟩

/-! ### slices_Clone_string_string: function 17, by hand -/
def slices_Clone_string.f (l0 : List (ByteArray)) : Option (List (ByteArray)) := if l0.length < 8796093022208 then some l0 else none
set_option maxHeartbeats 800000 in
set_option maxRecDepth 100000 in
theorem slices_Clone_string.calls (A0 : Option Addr) (c0 : Nat) (l0 : List (ByteArray)) (r : List (ByteArray)) (w : World) (hr0 : Kd.C Kd.string w A0 l0.length l0) (hc0 : l0.length ≤ c0) (h : slices_Clone_string.f l0 = some r) :
  Calls Try.prog 17 #[.slice A0 l0.length c0] w fun e w' => ∃ v0_ : Value, e = .returned (v0_) ∧ Kd.R Kd.string 9 w' w.heap.size (fun _ => True) v0_ r ∧ Below w.heap.size w w' := by
 unfold slices_Clone_string.f at h
 split at h
 rotate_left
 ·cases h
 rename_i hlen
 obtain rfl := Option.some.inj h
 clear h
 have HR0 := Lib.hid hr0
 have HB := Lib.hid (Below.refl w.heap.size w)
 cases A0 with
 | none =>
  have hl : l0 = [] := by
   rcases Nat.eq_zero_or_pos l0.length with h0 | h0
   ·exact List.eq_nil_of_length_eq_zero h0
   ·obtain ⟨ad, e, _⟩ := hr0.2.2 h0
    cases e
  subst hl
  clear hr0
  have he : ∀ w : World, (binOp .eql 22 (.slice none 0 c0) (.slice none 0 0)).run Try.prog w = .ok (.bool true) w := fun _ => rfl
  go_enter Try.func17, Try.ntmps17
  go_wp2
  go_ret
  exact ⟨_, rfl, Kd.R_nil _ _ _ _ _, HB.out⟩
 | some ad =>
  clear hr0
  have he : ∀ w : World, (binOp .eql 22 (.slice (some ad) l0.length c0) (.slice none 0 0)).run Try.prog w = .ok (.bool false) w := fun _ => rfl
  go_enter Try.func17, Try.ntmps17
  go_wp2_with (first | ((with_reducible refine gate_dst (N := 5) rfl ?_); refine Kd.R_lit Kd.string _ 9 ?hg (N := 5) ?hd (xs := ([] : List (ByteArray))) (inner := []) (ok := fun _ => True) (okp := fun _ => True) ?hr ?hp (fun _ hk => hk) trivial (Below.refl _ _) (Nat.le_refl _) (by simp) ?_; (case hd => rfl); (case hg => rfl); (case hr => first | (go_simp; done) | (go_simp; rfl)); (case hp => exact (Reps.none _ _)); intro v1 w3 ho4 hb hg_ hnew_; clear hg_ hnew_; have HO1 := Lib.hid (Kd.R_lower ho4 HB.out.size); have HB1 := Lib.hid (below_then HB.out HB.out.size hb); clear HB ho4 hb) | ((with_reducible refine gate_builtin (b := .append) (xs := #[.tmp 5, .tmp 6]) rfl ?_); at_builtin; refine Kd.R_append_rows Kd.string (w0 := w) w.heap.size rfl (.tmp 5) (.tmp 6) 22 9 (.string ⟨#[]⟩) 16 rfl Try.underlying22 info9 rfl (by decide) (by omega) v1 [] l0 _ _ _ (fun _ => True) (fun _ => False) rfl rfl HO1.out (Kd.C_below HR0.out HB1.out) (fun _ _ h => h) (fun _ h => h.elim) (fun _ _ => trivial) HB1.out HB1.out.size (by simp; omega) ?_; intro v2 w5 ho hb hg hat))
  go_ret
  exact ⟨_, rfl, ho, hb⟩


/-! ### api_Wait_34: function 34, by hand -/
def api_Wait_34.f (l0 : List (S39)) : Option (List (S39)) := if l0.length < 5864062014805 then some l0 else none
set_option maxHeartbeats 800000 in
set_option maxRecDepth 100000 in
theorem api_Wait_34.calls (A0 : Option Addr) (c0 : Nat) (l0 : List (S39)) (r : List (S39)) (w : World) (hr0 : Kd.C k39 w A0 l0.length l0) (hc0 : l0.length ≤ c0) (h : api_Wait_34.f l0 = some r) :
  Calls Try.prog 34 #[.slice A0 l0.length c0] w fun e w' => ∃ v0_ : Value, e = .returned (v0_) ∧ Kd.R k39 39 w' w.heap.size (fun _ => True) v0_ r ∧ Below w.heap.size w w' := by
 unfold api_Wait_34.f at h
 split at h
 rotate_left
 ·cases h
 rename_i hlen
 obtain rfl := Option.some.inj h
 clear h
 have HR0 := Lib.hid hr0
 have HB := Lib.hid (Below.refl w.heap.size w)
 cases A0 with
 | none =>
  have hl : l0 = [] := by
   rcases Nat.eq_zero_or_pos l0.length with h0 | h0
   ·exact List.eq_nil_of_length_eq_zero h0
   ·obtain ⟨ad, e, _⟩ := hr0.2.2 h0
    cases e
  subst hl
  clear hr0
  have he : ∀ w : World, (binOp .eql 23 (.slice none 0 c0) (.slice none 0 0)).run Try.prog w = .ok (.bool true) w := fun _ => rfl
  go_enter Try.func34, Try.ntmps34
  go_wp2
  go_ret
  exact ⟨_, rfl, Kd.R_nil _ _ _ _ _, HB.out⟩
 | some ad =>
  clear hr0
  have he : ∀ w : World, (binOp .eql 23 (.slice (some ad) l0.length c0) (.slice none 0 0)).run Try.prog w = .ok (.bool false) w := fun _ => rfl
  go_enter Try.func34, Try.ntmps34
  go_wp2_with (first | ((with_reducible refine gate_dst (N := 5) rfl ?_); refine Kd.R_lit k39 _ 39 ?hg (N := 5) ?hd (xs := ([] : List (S39))) (inner := []) (ok := fun _ => True) (okp := fun _ => True) ?hr ?hp (fun _ hk => hk) trivial (Below.refl _ _) (Nat.le_refl _) (by simp) ?_; (case hd => rfl); (case hg => rfl); (case hr => first | (go_simp; done) | (go_simp; rfl)); (case hp => exact (Reps.none _ _)); intro v1 w3 ho4 hb hg_ hnew_; clear hg_ hnew_; have HO1 := Lib.hid (Kd.R_lower ho4 HB.out.size); have HB1 := Lib.hid (below_then HB.out HB.out.size hb); clear HB ho4 hb) | ((with_reducible refine gate_builtin (b := .append) (xs := #[.tmp 5, .tmp 6]) rfl ?_); at_builtin; refine Kd.R_append_rows k39 (w0 := w) w.heap.size rfl (.tmp 5) (.tmp 6) 23 39 (.agg #[(.int .i64 0), (.string ⟨#[]⟩)]) 24 rfl Try.underlying23 info39 rfl (by decide) (by omega) v1 [] l0 _ _ _ (fun _ => True) (fun _ => False) rfl rfl HO1.out (Kd.C_below HR0.out HB1.out) (fun _ _ h => h) (fun _ h => h.elim) (fun _ _ => trivial) HB1.out HB1.out.size (by simp; omega) ?_; intro v2 w5 ho hb hg hat))
  go_ret
  exact ⟨_, rfl, ho, hb⟩


-- PXIMPORT YtedbbpefogcjnaaGDev
/-! ### block_Open: function 23, by hand -/
theorem DQ.start {P : Nat → Prop} {B : Nat} {w : World} {v1 v2 : Value} {D : Dv} {ok1 ok2 : Nat → Prop} (h1 : Kd.R Kd.string 9 w B ok1 v1 D.b) (h2 : Kd.R k39 39 w B ok2 v2 D.w) (hB : B ≤ w.heap.size) (hP : ∀ k, B ≤ k → k < w.heap.size + 1 → P k) : DQ P w.heap.size (w.alloc (.cells #[v1, v2, .int .i64 D.f, .bool D.d] 50)) D := by
 letI : Inhabited S39 := ⟨z39⟩
 have t1 : TRow st_enc 1 9 w v1 D.b := TRow.ofR (d := Kd.string) (fun hp => hp) rfl h1
 have t2 : TRow wt_enc 2 39 w v2 D.w := TRow.ofR (d := k39) (fun hp => k39_openM hp) rfl h2
 have hb := below_alloc (Below.refl w.heap.size w) (.cells #[v1, v2, .int .i64 D.f, .bool D.d] 50)
 exact ⟨hP _ hB (by omega), v1, v2, blk_new w _, fun k hk => hP k (Kd.R_base h1 k hk) (by have := t1.lt k hk; omega), fun k hk => hP k (Kd.R_base h2 k hk) (by have := t2.lt k hk; omega), t1.moved (fun k hk => hb.block k (t1.lt k hk)), t2.moved (fun k hk => hb.block k (t2.lt k hk))⟩
/-- What a device's opening tells. -/
def dv_open (D : Dv) : Int := if dv_check D = 0 then if D.d = true then 9 else 0 else dv_check D
def dv_zero : Dv := ⟨[], [], 0, false⟩
/-- A device's slices have a length that a clone may have. -/
def dv_fit (D : Dv) : Prop := D.b.length < 8796093022208 ∧ D.w.length < 5864062014805 ∧ D.f ≤ 9223372036854775807
instance (D : Dv) : Decidable (dv_fit D) := by unfold dv_fit; infer_instance
set_option maxHeartbeats 2000000 in
set_option maxRecDepth 100000 in
theorem dev_open (A1 : Option Addr) (c1 : Nat) (A2 : Option Addr) (c2 : Nat) (D : Dv) (w : World) (hC1 : Kd.C Kd.string w A1 D.b.length D.b) (hl1 : D.b.length ≤ c1) (hC2 : Kd.C k39 w A2 D.w.length D.w) (hl2 : D.w.length ≤ c2) (hfit : dv_fit D) :
  Calls Try.prog 23 #[.agg #[.slice A1 D.b.length c1, .slice A2 D.w.length c2, .int .i64 D.f, .bool D.d]] w fun e w' => ∃ g, e = .returned (.tuple #[.pointer (some ⟨g, 0, none⟩), .int .i64 (dv_open D)]) ∧ DQ (fun k => w.heap.size ≤ k ∧ k < w'.heap.size) g w' (if dv_check D = 0 then D else dv_zero) ∧ Below w.heap.size w w' := by
 have hu := Try.underlying50
 have hu2 := Try.underlying25
 have hb := below_alloc (Below.refl w.heap.size w) (.cells #[.slice A1 D.b.length c1, .slice A2 D.w.length c2, .int .i64 D.f, .bool D.d] 25)
 have hn := blk_new w (.cells #[.slice A1 D.b.length c1, .slice A2 D.w.length c2, .int .i64 D.f, .bool D.d] 25)
 have HC1 := Lib.hid hC1
 have HC2 := Lib.hid hC2
 have HCH := Lib.hid (block_Check.calls A1 c1 D.b A2 c2 D.w D.f D.d (dv_check D) (w.alloc (.cells #[.slice A1 D.b.length c1, .slice A2 D.w.length c2, .int .i64 D.f, .bool D.d] 25)) (Kd.C_below hC1 hb) hl1 (Kd.C_below hC2 hb) hl2 rfl)
 have HB := Lib.hid hb
 have HN := Lib.hid hn
 have HFIT := Lib.hid hfit
 unfold dv_open
 clear hC1 hC2 hb hn hfit
 by_cases c : dv_check D = 0
 rotate_left
 ·rw [if_neg c, if_neg c]
  generalize dv_check D = r at c HCH ⊢
  have d : (r != 0) = true := bne_iff_ne.mpr c
  go_enter Try.func23, Try.ntmps23
  go_wp2_with (first | (go_at_call 16; refine HCH.out.mono ?_; rintro e w3 ⟨rfl, hb3⟩; have HB3 := Lib.hid (below_then HB.out HB.out.size hb3); clear hb3))
  go_ret2
  refine ⟨_, rfl, DQ.start (B := w.heap.size) (ok1 := fun _ => True) (ok2 := fun _ => True) (D := dv_zero) (Kd.R_nil _ _ _ _ _) (Kd.R_nil _ _ _ _ _) HB3.out.size (fun k hk hk2 => ⟨hk, by simpa using hk2⟩), below_alloc HB3.out _⟩
 rw [c] at HCH
 rw [if_pos c, if_pos c]
 clear c
 go_enter Try.func23, Try.ntmps23
 go_upto_region 4 with (first | (go_at_call 16; refine HCH.out.mono ?_; rintro e w3 ⟨rfl, hb3⟩; have HB3 := Lib.hid hb3; clear hb3))
 obtain ⟨s, hs⟩ : ∃ s, s = w.heap.size := ⟨_, rfl⟩
 have hrow := (HB3.out.block w.heap.size (by simp)).trans HN.out
 have hbw := below_then HB.out HB.out.size HB3.out
 have HBW := Lib.hid hbw
 rw [← hs] at hrow ⊢
 have HS := Lib.hid hs
 have HROW := Lib.hid hrow
 have mixed : Try.prog.follows Departure.mixedOrders = true := by kernel_rfl
 obtain ⟨g0, g1, g2, g3⟩ := blk_cells4 hrow
 clear hs hrow hbw
 refine start_ (n := 10) (S := fun w' => w'.cell? ⟨s, 0, none⟩ = some (.slice A1 D.b.length c1) ∧ w'.cell? ⟨s, 1, none⟩ = some (.slice A2 D.w.length c2)) (ds := [7, 9]) #[false, false, false, false, false, false, false, false, false, false] (by kernel_rfl) rfl rfl (⟨g0, g1⟩) (fun hHeld => ?_)
 refine pure_ (i := 0) (N := some 13) (v := ?_) (a' := ?_) #[true, false, false, false, false, false, false, false, false, false] rfl rfl (by kernel_rfl) (fun _ _ _ h => h) (Or.inl ⟨by rfl, ?_⟩) ?_ ?_
 rotate_left
 ·intro w'
  go_simp
  with_reducible rfl
 rotate_left
 ·simp only [Act.put, List.setIfInBounds_toArray, List.set_cons_zero, List.set_cons_succ, i64_w, i32_w]
  rfl
 refine take_ (i := 1) (N := some 14) (v := ?_) (a' := ?_) #[true, true, false, false, false, false, false, false, false, false] rfl rfl (by kernel_rfl) (fun _ _ _ h => h) (Or.inl ⟨by rfl, ?_⟩) hHeld ?_ ?_
 rotate_left
 ·rintro w' ⟨s0, s1⟩
  go_simp
  with_reducible rfl
 rotate_left
 ·simp only [Act.put, List.setIfInBounds_toArray, List.set_cons_zero, List.set_cons_succ, i64_w, i32_w]
  rfl
 refine pure_ (i := 3) (N := some 16) (v := ?_) (a' := ?_) #[true, true, false, true, false, false, false, false, false, false] rfl rfl (by kernel_rfl) (fun _ _ _ h => h) (Or.inl ⟨by rfl, ?_⟩) ?_ ?_
 rotate_left
 ·intro w'
  go_simp
  with_reducible rfl
 rotate_left
 ·simp only [Act.put, List.setIfInBounds_toArray, List.set_cons_zero, List.set_cons_succ, i64_w, i32_w]
  rfl
 refine take_ (i := 4) (N := some 17) (v := ?_) (a' := ?_) #[true, true, false, true, true, false, false, false, false, false] rfl rfl (by kernel_rfl) (fun _ _ _ h => h) (Or.inl ⟨by rfl, ?_⟩) hHeld ?_ ?_
 rotate_left
 ·rintro w' ⟨s0, s1⟩
  go_simp
  with_reducible rfl
 rotate_left
 ·simp only [Act.put, List.setIfInBounds_toArray, List.set_cons_zero, List.set_cons_succ, i64_w, i32_w]
  rfl
 refine one_ (i := 2) (N := some 15) #[true, true, true, true, true, false, false, false, false, false] rfl rfl (by kernel_rfl) (by decide) (fun K hK => ?_)
 refine call_ 17 #[.slice A1 D.b.length c1] rfl rfl (by go_simp) ?_
 refine (slices_Clone_string.calls A1 c1 D.b D.b _ (Kd.C_below HC1.out (below_drew1 HBW.out)) hl1 (by unfold slices_Clone_string.f; rw [if_pos HFIT.out.1])).mono ?_
 rintro e w4 ⟨v4, rfl, hr4, hb4⟩
 refine ⟨_, rfl, ?_⟩
 refine hK.out _ _ ⟨pw_cell_below hb4 hHeld.1, pw_cell_below hb4 hHeld.2⟩ (fun hHeld2 => ?_)
 clear hK K
 refine norm_ (a' := ?_) ?_ ?_
 rotate_left
 ·show Act.put _ (some 15) _ = _
  simp only [Act.put, List.setIfInBounds_toArray, List.set_cons_zero, List.set_cons_succ, i64_w, i32_w]
  rfl
 refine pure_ (i := 6) (N := some 19) (v := ?_) (a' := ?_) #[true, true, true, true, true, false, true, false, false, false] rfl rfl (by kernel_rfl) (fun _ _ _ h => h) (Or.inl ⟨by rfl, ?_⟩) ?_ ?_
 rotate_left
 ·intro w'
  go_simp
  with_reducible rfl
 rotate_left
 ·simp only [Act.put, List.setIfInBounds_toArray, List.set_cons_zero, List.set_cons_succ, i64_w, i32_w]
  rfl
 refine one_ (i := 5) (N := some 18) #[true, true, true, true, true, true, true, false, false, false] rfl rfl (by kernel_rfl) (by decide) (fun K hK => ?_)
 refine call_ 34 #[.slice A2 D.w.length c2] rfl rfl (by go_simp) ?_
 refine (api_Wait_34.calls A2 c2 D.w D.w _ (Kd.C_below HC2.out (below_then (below_drew1 HBW.out) (below_drew1 HBW.out).size hb4)) hl2 (by unfold api_Wait_34.f; rw [if_pos HFIT.out.2.1])).mono ?_
 rintro e w5 ⟨v5, rfl, hr5, hb5⟩
 refine ⟨_, rfl, ?_⟩
 refine hK.out _ _ ⟨pw_cell_below hb5 hHeld2.1, pw_cell_below hb5 hHeld2.2⟩ (fun hHeld3 => ?_)
 clear hK K
 refine norm_ (a' := ?_) ?_ ?_
 rotate_left
 ·show Act.put _ (some 18) _ = _
  simp only [Act.put, List.setIfInBounds_toArray, List.set_cons_zero, List.set_cons_succ, i64_w, i32_w]
  rfl
 have hrow5 := (hb5.block s (Nat.lt_of_lt_of_le (blk_lt HROW.out) hb4.size)).trans ((hb4.block s (blk_lt HROW.out)).trans HROW.out)
 have hr4' := Kd.R_below hr4 hb5
 have hbw5 := below_then (below_then (below_drew1 HBW.out) (below_drew1 HBW.out).size hb4) (below_then (below_drew1 HBW.out) (below_drew1 HBW.out).size hb4).size hb5
 have hle : w.heap.size ≤ w3.heap.size := HBW.out.size
 have hR4 := Kd.R_types hr4' hrow5 (by decide)
 have hR5 := Kd.R_types hr5 hrow5 (by decide)
 have hR4b := Kd.R_far hR4 (p := ⟨s, 1, none⟩) (fun k hk => hk.2) v5
 have hrs := blk_set (blk_set hrow5 0 v4) 1 v5
 obtain ⟨q0, q1, q2, q3⟩ := blk_cells4 hrow5
 have z0 := blk_frozen hrow5 0
 have z1 := blk_frozen hrow5 1
 have HR4 := Lib.hid (Kd.R_far (Kd.R_far hR4 (p := ⟨s, 0, none⟩) (fun k hk => hk.2) v4) (p := ⟨s, 1, none⟩) (fun k hk => hk.2) v5)
 have HR5 := Lib.hid (Kd.R_far (Kd.R_far hR5 (p := ⟨s, 0, none⟩) (fun k hk => hk.2) v4) (p := ⟨s, 1, none⟩) (fun k hk => hk.2) v5)
 have HRS := Lib.hid hrs
 have hsb : w.heap.size ≤ s := by rw [HS.out]; exact Nat.le_refl _
 have HB5 := Lib.hid ((hbw5.setCell (p := ⟨s, 0, none⟩) hsb v4).setCell (p := ⟨s, 1, none⟩) hsb v5)
 obtain ⟨B4, e4, rfl⟩ := Kd.R_slice hr4
 obtain ⟨B5, e5, rfl⟩ := Kd.R_slice hr5
 have hle3 : w.heap.size ≤ w3.drew.heap.size := hle
 have hle4 : w.heap.size ≤ w4.heap.size := Nat.le_trans hle3 hb4.size
 clear hHeld hHeld2 hHeld3 hr4 hr5 hr4' hbw5 hR4 hR5 hR4b hrs hb4 hb5 hrow5 hsb hle
 refine last_ (i := 7) (N := none) #[true, true, true, true, true, true, true, true, false, false] rfl rfl (by kernel_rfl) (by decide) (fun K hK => ?_)
 refine skip_ (w1 := ?_) (by rfl) rfl ?_ ?_
 rotate_left
 ·go_simp
  rfl
 refine hK.out _ _ ?_
 clear hK K
 refine pure_ (i := 8) (N := some 20) (v := ?_) (a' := ?_) #[true, true, true, true, true, true, true, true, true, false] rfl rfl (by kernel_rfl) (fun _ _ _ h => h) (Or.inl ⟨by rfl, ?_⟩) ?_ ?_
 rotate_left
 ·intro w'
  go_simp
  with_reducible rfl
 rotate_left
 ·simp only [Act.put, List.setIfInBounds_toArray, List.set_cons_zero, List.set_cons_succ, i64_w, i32_w]
  rfl
 refine last_ (i := 9) (N := none) #[true, true, true, true, true, true, true, true, true, true] rfl rfl (by kernel_rfl) (by decide) (fun K hK => ?_)
 refine skip_ (w1 := ?_) (by rfl) rfl ?_ ?_
 rotate_left
 ·go_simp
  rfl
 refine hK.out _ _ ?_
 clear hK K
 refine done_ (by kernel_rfl) ?_
 generalize ((w5.setCell ⟨s, 0, none⟩ (.slice B4 D.b.length e4)).setCell ⟨s, 1, none⟩ (.slice B5 D.w.length e5)) = w6 at HR4 HR5 HRS HB5 ⊢
 have hrs := HRS.out
 simp only [List.setIfInBounds_toArray, List.set_cons_zero, List.set_cons_succ] at hrs
 obtain ⟨y0, y1, y2, y3⟩ := blk_cells4 hrs
 have hne := World.new_ne w6 ⟨s, 0, none⟩ y0
 have hne2 : s ≠ w6.heap.size := fun e => hne e.symm
 have y4 : ∀ o, (w6.alloc o).cell? ⟨s, 3, none⟩ = some (.bool D.d) := fun o => (World.cell?_alloc_lt _ _ _ (World.block_lt_of_cell? w6 ⟨s, 3, none⟩ y3)).trans y3
 clear hrs q0 q1 q2 q3 z0 z1 g0 g1 g2 g3
 obtain ⟨db, dw, df, dd⟩ := D
 simp only at *
 cases dd with
 | true =>
  go_wp2
  go_ret2
  exact ⟨_, rfl, DQ.start (B := w.heap.size) (D := ⟨db, dw, df, true⟩) (Kd.R_lower HR4.out hle3) (Kd.R_lower HR5.out hle4) HB5.out.size (fun k hk hk2 => ⟨hk, by simpa using hk2⟩), below_alloc HB5.out _⟩
 | false =>
  go_wp2
  go_ret2
  exact ⟨_, rfl, DQ.start (B := w.heap.size) (D := ⟨db, dw, df, false⟩) (Kd.R_lower HR4.out hle3) (Kd.R_lower HR5.out hle4) HB5.out.size (fun k hk hk2 => ⟨hk, by simpa using hk2⟩), below_alloc HB5.out _⟩

-- PXIMPORT YtedbbpefogcjnaaGDev
/-! ### block_Dev_Read: function 25, by hand -/
def dv_there (D : Dv) (at_ : Int) : Bool := decide (0 ≤ at_) && decide (at_ < (D.b.length : Int))
set_option maxHeartbeats 400000 in
set_option maxRecDepth 100000 in
theorem dev_there (g : Nat) (D : Dv) (at_ : Int) (w : World) (hD : DR w g D) :
  Calls Try.prog 36 #[.pointer (some ⟨g, 0, none⟩), .int .i64 at_] w fun e w' => e = .returned (.bool (dv_there D at_)) ∧ w' = w := by
 have hu := Try.underlying50
 have hu2 := Try.underlying25
 obtain ⟨A1, c1, A2, c2, hrow, hl1, hl2, hC1, hC2⟩ := hD
 obtain ⟨g0, g1, g2, g3⟩ := blk_cells4 hrow
 clear hrow hC1 hC2
 unfold dv_there
 by_cases h0 : 0 ≤ at_
 ·have q0 : decide (0 ≤ at_) = true := decide_eq_true h0
  rw [q0, Bool.true_and]
  obtain ⟨r, hr⟩ : ∃ r, r = decide (at_ < (D.b.length : Int)) := ⟨_, rfl⟩
  rw [← hr]
  have hr2 := hr.symm
  clear hr
  go_enter Try.func36, Try.ntmps36
  go_wp2
  go_ret
  exact ⟨by first | rfl | (rw [hr2]; done) | (rw [← hr2]; done) | (simp_all; done), rfl⟩
 ·have q0 : decide (0 ≤ at_) = false := decide_eq_false h0
  rw [q0, Bool.false_and]
  go_enter Try.func36, Try.ntmps36
  go_wp2
  go_ret
  exact ⟨rfl, rfl⟩
def dv_read (D : Dv) (at_ : Int) : ByteArray × Int := if dv_there D at_ = true then (dv_has D at_, 0) else (⟨#[]⟩, 1)
set_option maxHeartbeats 400000 in
set_option maxRecDepth 100000 in
theorem dev_read (g : Nat) (D : Dv) (at_ : Int) (w : World) (hD : DR w g D) :
  Calls Try.prog 25 #[.pointer (some ⟨g, 0, none⟩), .int .i64 at_] w fun e w' => e = .returned (.tuple #[.string (dv_read D at_).1, .int .i64 (dv_read D at_).2]) ∧ Below w.heap.size w w' := by
 have HT := dev_there g D at_ w hD
 have HH := fun (h : dv_there D at_ = true) => dev_has g D at_ w hD (by unfold dv_there at h; simp at h; exact h.1) (by unfold dv_there at h; simp at h; exact h.2)
 clear hD
 unfold dv_read
 generalize dv_there D at_ = r at HT HH ⊢
 cases r with
 | true =>
  have HH2 := HH rfl
  rw [if_pos rfl]
  generalize dv_has D at_ = s at HH2 ⊢
  clear HH
  go_enter Try.func25, Try.ntmps25
  go_wp2_with (first | (go_at_call 36; refine HT.mono ?_; rintro e w3 ⟨rfl, rfl⟩) | (go_at_call 20; refine HH2.mono ?_; rintro e w3 ⟨rfl, hb3⟩))
  go_ret2
  exact ⟨rfl, hb3⟩
 | false =>
  rw [if_neg (by decide)]
  clear HH
  go_enter Try.func25, Try.ntmps25
  go_wp2_with (first | (go_at_call 36; refine HT.mono ?_; rintro e w3 ⟨rfl, rfl⟩))
  go_ret2
  exact ⟨rfl, Below.refl _ _⟩

end Go.Proofs.Ytedbbpefogcjnaa.XB
-- squeezed
