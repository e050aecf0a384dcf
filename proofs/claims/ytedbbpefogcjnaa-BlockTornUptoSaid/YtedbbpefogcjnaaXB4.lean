-- by px.py, a program of this session, over the kit's printer: functions given by hand stand beside printed ones. Lean checks all of it.
import Derived.Test.YtedbbpefogcjnaaXB0
import Derived.Test.YtedbbpefogcjnaaXB2
import Derived.Test.YtedbbpefogcjnaaXB3
import Derived.Test.YtedbbpefogcjnaaGDev
import Derived.Test.YtedbbpefogcjnaaGKey
import Derived.Test.YtedbbpefogcjnaaGRep
import Derived.Laws.CopyOwn
import Derived.Laws.CopyRow
import Derived.Laws.MakeOwn
import Derived.Test.YtedbbpefogcjnaaGKey
import Derived.BigRegion
namespace Go.Proofs.Ytedbbpefogcjnaa.XB
open Go.RowKit Go.Proofs.YtedbbpefogcjnaaW.PrintWords Go.Proofs.YtedbbpefogcjnaaW.PrintLast Go.Proofs.YtedbbpefogcjnaaW.PrintMore
attribute [local go_sem] max2_int min2_int max_two min_two max_three min_three max_four min_four   -- for this text's walks alone
set_option linter.unusedVariables false
set_option linter.unusedSimpArgs false

/-! ### block_Read: function 14, by hand -/
def dv_Read (D : Dv) (at_ : Int) : ByteArray × Int := if dv_open D = 0 then dv_read D at_ else (⟨#[]⟩, dv_open D)
def block_Read.f (l0_0 : List ByteArray) (l0_1 : List (S39)) (a0_2 : Int) (a0_3 : Bool) (a1 : Int) : Option (ByteArray × Int) := if dv_fit ⟨l0_0, l0_1, a0_2, a0_3⟩ then some (dv_Read ⟨l0_0, l0_1, a0_2, a0_3⟩ a1) else none
set_option maxHeartbeats 2000000 in
set_option maxRecDepth 100000 in
theorem block_Read.calls (A0_0 : Option Addr) (c0_0 : Nat) (l0_0 : List ByteArray) (A0_1 : Option Addr) (c0_1 : Nat) (l0_1 : List (S39)) (a0_2 : Int) (a0_3 : Bool) (a1 : Int) (r1 : ByteArray) (r2 : Int) (w : World) (hr0_0 : Kd.C Kd.string w A0_0 l0_0.length l0_0) (hc0_0 : l0_0.length ≤ c0_0) (hr0_1 : Kd.C k39 w A0_1 l0_1.length l0_1) (hc0_1 : l0_1.length ≤ c0_1) (h : block_Read.f l0_0 l0_1 a0_2 a0_3 a1 = some (r1, r2)) :
  Calls Try.prog 14 #[.agg #[.slice A0_0 l0_0.length c0_0, .slice A0_1 l0_1.length c0_1, .int .i64 a0_2, .bool a0_3], .int .i64 a1] w fun e w' => e = .returned (.tuple #[.string r1, .int .i64 r2]) ∧ Below w.heap.size w w' := by
 have hu := Try.underlying50
 have hu2 := Try.underlying25
 unfold block_Read.f at h
 obtain ⟨D, hD⟩ : ∃ D : Dv, D = ⟨l0_0, l0_1, a0_2, a0_3⟩ := ⟨_, rfl⟩
 rw [← hD] at h
 obtain ⟨rfl, rfl, rfl, rfl⟩ : l0_0 = D.b ∧ l0_1 = D.w ∧ a0_2 = D.f ∧ a0_3 = D.d := by rw [hD]; exact ⟨rfl, rfl, rfl, rfl⟩
 clear hD
 split at h
 rotate_left
 ·cases h
 rename_i hfit
 have hE := (Option.some.inj h).symm
 clear h
 have hb := below_alloc (Below.refl w.heap.size w) (.cells #[.slice A0_0 D.b.length c0_0, .slice A0_1 D.w.length c0_1, .int .i64 D.f, .bool D.d] 25)
 have HO := Lib.hid (dev_open A0_0 c0_0 A0_1 c0_1 D _ (Kd.C_below hr0_0 hb) hc0_0 (Kd.C_below hr0_1 hb) hc0_1 hfit)
 have HB := Lib.hid hb
 clear hr0_0 hr0_1 hb
 unfold dv_Read at hE
 by_cases c : dv_open D = 0
 rotate_left
 ·rw [if_neg c] at hE
  simp only [Prod.mk.injEq] at hE
  obtain ⟨rfl, rfl⟩ := hE
  generalize dv_open D = r at HO c ⊢
  have d : (r != 0) = true := bne_iff_ne.mpr c
  go_enter Try.func14, Try.ntmps14
  go_wp2_with (first | (go_at_call 23; refine HO.out.mono ?_; rintro e w3 ⟨g, rfl, hq3, hb3⟩; have HB3 := Lib.hid (below_then HB.out HB.out.size hb3); clear hb3 hq3))
  go_ret2
  exact ⟨rfl, HB3.out⟩
 ·rw [if_pos c] at hE
  rw [if_pos (dv_open_zero c), c] at HO
  clear c
  have HE := Lib.hid hE
  clear hE hfit
  go_enter Try.func14, Try.ntmps14
  go_wp2_with (first | (go_at_call 23; refine HO.out.mono ?_; rintro e w3 ⟨g, rfl, hq3, hb3⟩; have HB3 := Lib.hid (below_then HB.out HB.out.size hb3); have HW := Lib.hid (dev_read g D a1 w3 hq3.toR); rw [← HE.out] at HW; clear hb3 hq3) | (go_at_call 25; refine HW.out.mono ?_; rintro e w4 ⟨rfl, hb4⟩; have HB4 := Lib.hid (below_then HB3.out HB3.out.size hb4); clear hb4))
  go_ret2
  exact ⟨rfl, HB4.out⟩


-- PXIMPORT YtedbbpefogcjnaaGDev
-- PXIMPORT YtedbbpefogcjnaaGKey
-- PXIMPORT YtedbbpefogcjnaaGRep
-- PXIMPORT Derived.Laws.CopyOwn
-- PXIMPORT Derived.Laws.CopyRow
-- PXIMPORT Derived.Laws.MakeOwn
/-! ### slices_Repeat_string_string: function 33, by hand -/
theorem splice_same {L : List Value} {v : Value} {m k : Nat} (h : ∀ j, j < m → L[j]? = some v) (hm : m + k ≤ L.length) : ∀ j, j < m + k → (splice L m (List.replicate k v))[j]? = some v := by
 intro j hj
 unfold splice
 rcases Nat.lt_or_ge j m with c | c
 ·rw [List.getElem?_append_left (by rw [List.length_take]; omega), List.getElem?_take, if_pos c]
  exact h j c
 ·rw [List.getElem?_append_right (by rw [List.length_take]; omega), List.length_take, Nat.min_eq_left (by omega), List.getElem?_append_left (by rw [List.length_replicate]; omega), List.getElem?_replicate, if_pos (by omega)]
theorem run_copy_same (z : ByteArray) {w : World} {b o dLen dCap sLen sCap n k : Nat} {a : Addr} {cur : List Value} (hg : w.heap[b]? = some (.cells cur.toArray 9 (0, 0))) (hl : cur.length = n) (hcur : ∀ j, j < o → cur[j]? = some (.string z)) (hk : k = min sLen dLen) (ho : o + k ≤ n) (hs : ∀ j, j < k → w.cell? (a.add j) = some (.string z)) :
  ∃ w', (Builtin.copy_ #[22, 22] 3 #[.slice (some ⟨b, o, none⟩) dLen dCap, .slice (some a) sLen sCap]).run Try.prog w = .ok (.int .i64 (k : Int)) w' ∧ (∃ cur' : List Value, w'.heap[b]? = some (.cells cur'.toArray 9 (0, 0)) ∧ cur'.length = n ∧ ∀ j, j < o + k → cur'[j]? = some (.string z)) ∧ ∀ B w0, Below B w0 w → B ≤ b → Below B w0 w' := by
 have hsz : (Try.prog.info? 9).map (·.size) = some 1 := by
  obtain ⟨i0, hi0, hz0⟩ := info_parts info9
  rw [hi0]; simp [hz0.2.1]
 have h := run_copy_row (P := Try.prog) w 22 22 3 9 b o dLen dCap a sLen sCap cur.toArray 9 (List.replicate k (Value.string z)) Try.underlying22 hsz hg (by rw [List.length_replicate]; exact hk) (fun j v hv => by
  rw [List.getElem?_replicate] at hv
  split at hv
  ·cases hv; exact hs j (by assumption)
  ·cases hv) (by rw [List.length_replicate, List.size_toArray]; omega) (fun v hv => by rw [List.mem_replicate] at hv; rw [hv.2]; rfl)
 rw [List.length_replicate] at h
 refine ⟨_, h, ⟨splice cur o (List.replicate k (Value.string z)), ?_, by rw [length_splice _ _ _ (by rw [List.length_replicate]; omega)]; exact hl, splice_same hcur (by omega)⟩, fun B w0 hb hB => keys_below_setRow hb hB _⟩
 have hr := setRow_heap w b cur.toArray (cur.toArray.toList.take o ++ List.replicate k (Value.string z) ++ cur.toArray.toList.drop (o + k)).toArray 9 (0, 0) hg
 rw [hr]
 unfold splice
 simp
set_option maxHeartbeats 2000000 in
set_option maxRecDepth 100000 in
theorem slices_repeat (z : ByteArray) (n : Nat) (hn : n ≤ 4096) (q : Nat) (w : World) (hq : w.cell? ⟨q, 0, none⟩ = some (.string z)) :
  Calls Try.prog 33 #[.slice (some ⟨q, 0, none⟩) 1 1, .int .i64 (n : Int)] w fun e w' => ∃ b, e = .returned (.slice (some ⟨b, 0, none⟩) n n) ∧ w.heap.size ≤ b ∧ TRow st_enc 1 9 w' (.slice (some ⟨b, 0, none⟩) n n) (List.replicate n z) ∧ Below w.heap.size w w' := by
 obtain ⟨i0, hi0, hz0⟩ := info_parts info9
 have hmk : ∀ w : World, (Instr.makeSlice 22 (.int .i64 (n : Int)) (.int .i64 (n : Int))).run Try.prog w = .ok (.slice (some ⟨w.heap.size, 0, none⟩) n n) (w.alloc (.cells (madeCells #[.string ⟨#[]⟩] n) 9)) := fun w => by
  have h := run_make (P := Try.prog) w 22 9 i0 (.string ⟨#[]⟩) Try.underlying22 hi0 hz0.1 .i64 .i64 (n : Int) (n : Int) (by omega) (Int.le_refl _) (by rw [hz0.2.2]; omega) (by omega)
  rw [hz0.2.1, Nat.mul_one, Int.toNat_natCast] at h
  exact h
 have HM : Calls Try.prog 40 #[.int .u64 1, .int .u64 (n : Int)] w fun e w' => e = .returned (.tuple #[.int .u64 0, .int .u64 (n : Int)]) ∧ w = w' := by
  have h := Try.bits_Mul 1 n (by omega) (by omega) w
  rw [Nat.one_mul, Nat.div_eq_of_lt (by omega), Nat.mod_eq_of_lt (by omega)] at h
  exact h.mono (fun e w' ⟨he, hw⟩ => ⟨he, hw.symm⟩)
 have n0 : ¬ (n : Int) < 0 := by omega
 have n1 : ¬ (9223372036854775807 : Int) < (n : Int) := by omega
 have d1 : decide ((9223372036854775807 : Int) < (n : Int)) = false := decide_eq_false n1
 have hwu : IntKind.u64.wrap (n : Int) = (n : Int) := by rw [IntKind.wrap_u64]; omega
 have hsz : (Try.prog.info? 9).map (·.size) = some 1 := by rw [hi0]; simp [hz0.2.1]
 have hqw : q < w.heap.size := World.block_lt_of_cell? w _ hq
 have hB1 := below_alloc (Below.refl w.heap.size w) (.cells (madeCells #[.string ⟨#[]⟩] n) 9)
 have hn1 := blk_new w (.cells (madeCells #[.string ⟨#[]⟩] n) 9)
 have hml : (madeCells #[.string ⟨#[]⟩] n).toList.length = n := by rw [Array.length_toList, size_madeCells]
 have hq1 := pw_cell_below hB1 hq
 have HN := Lib.hid hn1
 have HB := Lib.hid hB1
 have HQ := Lib.hid hq1
 have HML := Lib.hid hml
 clear hq hB1 hn1 hq1 hml hi0 hz0
 go_enter Try.func33, Try.ntmps33
 go_upto_region 7 with (go_at_call 40; refine HM.mono ?_; rintro e w3 ⟨rfl, rfl⟩)
 generalize hmc : (madeCells #[.string ⟨#[]⟩] n) = mc at HN HB HQ HML ⊢
 clear hmc hmk HM
 generalize hW1 : (w.alloc (.cells mc 9)) = W1 at HN HB HQ ⊢
 clear hW1
 obtain ⟨b, hb⟩ : ∃ b, b = w.heap.size := ⟨_, rfl⟩
 rw [← hb] at HN ⊢
 have HBB := Lib.hid hb
 have hnb : W1.heap[b]? = some (.cells mc.toList.toArray 9 (0, 0)) := by rw [Array.toArray_toList]; exact HN.out
 have HNB := Lib.hid hnb
 obtain ⟨W5, hcp, h5, hb5⟩ := run_copy_same z (k := min 1 n) (o := 0) (dLen := n) (dCap := n) (sLen := 1) (sCap := 1) (a := ⟨q, 0, none⟩) hnb HML.out (fun j hj => absurd hj (by omega)) rfl (by have := Nat.min_le_right 1 n; omega) (fun j hj => by
  have hj2 : j = 0 := by have := Nat.min_le_left 1 n; omega
  subst hj2
  exact HQ.out)
 have HB5 := Lib.hid (hb5 _ _ HB.out (by rw [hb]; exact Nat.le_refl _))
 have H5 := Lib.hid h5
 obtain ⟨m0, hm0⟩ : ∃ m0, m0 = min 1 n := ⟨_, rfl⟩
 have hm1 : m0 ≤ n ∧ (0 < m0 ∨ n = 0) := by rw [hm0]; omega
 rw [← hm0] at hcp H5
 simp only [Nat.zero_add] at H5
 have HM1 := Lib.hid hm1
 clear hb hnb hb5 h5 hm0 hm1 hqw
 go_wp2
 go_loopw [8] (fun v8 wr => ∃ m : Nat, v8 = .int .i64 (m : Int) ∧ Hid (m ≤ n ∧ (0 < m ∨ n = 0)) ∧ Hid (∃ cur' : List Value, wr.heap[b]? = some (.cells cur'.toArray 9 (0, 0)) ∧ cur'.length = n ∧ ∀ j, j < m → cur'[j]? = some (.string z)) ∧ Hid (Below w.heap.size w wr)) (fun v8 _ => n - (intOf v8).toNat)
 case atStart => exact ⟨m0, rfl, HM1, H5, HB5⟩
 case round =>
  clear H5 HB5 hcp HN HNB HQ
  obtain ⟨m, rfl, HM, HC, HB⟩ := hrel
  by_cases hlt : m < n
  rotate_left
  ·obtain rfl : m = n := by have := HM.out; omega
   have q1 : ¬ ((m : Int) < (m : Int)) := by omega
   have q2 : decide ((m : Int) < (m : Int)) = false := decide_eq_false q1
   go_wp2
   go_ret
   obtain ⟨cur', hc1, hc2, hc3⟩ := HC.out
   refine ⟨b, rfl, by rw [HBB.out]; exact Nat.le_refl _, .inr ⟨b, m, _, by rw [List.length_replicate], hc1, by rw [List.length_replicate]; exact Nat.le_refl _, by unfold maxLen; omega, by rw [List.size_toArray]; omega, fun j x hj t u hu => ?_⟩, HB.out⟩
   rw [List.getElem?_replicate] at hj
   split at hj
   ·cases hj
    unfold st_enc at hu
    have ht : t = 0 := by have := (List.getElem?_eq_some_iff.1 hu).1; simpa using this
    subst ht
    cases hu
    rw [Nat.mul_one, Nat.add_zero, List.getElem?_toArray]
    exact hc3 j (by assumption)
   ·cases hj
  ·have q1 : ((m : Int) < (n : Int)) := by omega
   have q2 : decide ((m : Int) < (n : Int)) = true := decide_eq_true q1
   have q3 : (m : Int) ≤ (n : Int) := by omega
   have q4 : (n = m) = False := eq_false (by omega)
   have hm0 : 0 < m := by have := HM.out; omega
   obtain ⟨cur', hc1, hc2, hc3⟩ := HC.out
   obtain ⟨W6, hcp, h6, hb6⟩ := run_copy_same (w := wr.drew) z (k := min m (n - m)) (o := m) (dLen := n - m) (dCap := n - m) (sLen := m) (sCap := n) (a := ⟨b, 0, none⟩) hc1 hc2 hc3 rfl (by have := Nat.min_le_right m (n - m); omega) (fun j hj => by
    rw [add_plain, blk_cell (show wr.drew.heap[b]? = _ from hc1), List.getElem?_toArray]
    exact hc3 j (by have := Nat.min_le_left m (n - m); omega))
   obtain ⟨d, hd⟩ : ∃ d, d = min m (n - m) := ⟨_, rfl⟩
   have hd1 : 0 < d ∧ m + d ≤ n := by rw [hd]; omega
   rw [← hd] at hcp h6
   have HCP := Lib.hid hcp
   have H6 := Lib.hid h6
   have HB6 := Lib.hid (hb6 _ _ (below_drew1 HB.out) (by rw [HBB.out]; exact Nat.le_refl _))
   have HD := Lib.hid hd1
   have hsum : wrap64 ((m : Int) + (d : Int)) = ((m + d : Nat) : Int) := by unfold wrap64; omega
   have hsum2 : IntKind.i64.wrap ((m : Int) + (d : Int)) = ((m + d : Nat) : Int) := (i64_w _).trans hsum
   have mixed : Try.prog.follows Departure.mixedOrders = true := by kernel_rfl
   clear hcp h6 hb6 hd1 hd hc1 hc2 hc3
   go_upto_region 9 with fail
   refine start_ (n := 10) (S := fun w' => True) (ds := []) #[false, false, false, false, false, false, false, false, false, false] (by kernel_rfl) rfl rfl (trivial) (fun hHeld => ?_)
   refine pure_ (i := 0) (N := some 38) (v := ?_) (a' := ?_) #[true, false, false, false, false, false, false, false, false, false] rfl rfl (by kernel_rfl) (fun _ _ _ h => h) (Or.inl ⟨by rfl, ?_⟩) ?_ ?_
   rotate_left
   ·intro w'
    go_simp
    with_reducible rfl
   rotate_left
   ·simp only [Act.put, List.setIfInBounds_toArray, List.set_cons_zero, List.set_cons_succ, i64_w, i32_w]
    rfl
   refine pure_ (i := 1) (N := some 39) (v := ?_) (a' := ?_) #[true, true, false, false, false, false, false, false, false, false] rfl rfl (by kernel_rfl) (fun _ _ _ h => h) (Or.inl ⟨by rfl, ?_⟩) ?_ ?_
   rotate_left
   ·intro w'
    go_simp
    with_reducible rfl
   rotate_left
   ·simp only [Act.put, List.setIfInBounds_toArray, List.set_cons_zero, List.set_cons_succ, i64_w, i32_w]
    rfl
   refine pure_ (i := 2) (N := some 40) (v := ?_) (a' := ?_) #[true, true, true, false, false, false, false, false, false, false] rfl rfl (by kernel_rfl) (fun _ _ _ h => h) (Or.inl ⟨by rfl, ?_⟩) ?_ ?_
   rotate_left
   ·intro w'
    go_simp
    with_reducible rfl
   rotate_left
   ·simp only [Act.put, List.setIfInBounds_toArray, List.set_cons_zero, List.set_cons_succ, i64_w, i32_w]
    rfl
   refine pure_ (i := 3) (N := some 41) (v := ?_) (a' := ?_) #[true, true, true, true, false, false, false, false, false, false] rfl rfl (by kernel_rfl) (fun _ _ _ h => h) (Or.inl ⟨by rfl, ?_⟩) ?_ ?_
   rotate_left
   ·intro w'
    go_simp
    with_reducible rfl
   rotate_left
   ·simp only [Act.put, List.setIfInBounds_toArray, List.set_cons_zero, List.set_cons_succ, i64_w, i32_w]
    rfl
   refine pure_ (i := 4) (N := some 42) (v := ?_) (a' := ?_) #[true, true, true, true, true, false, false, false, false, false] rfl rfl (by kernel_rfl) (fun _ _ _ h => h) (Or.inl ⟨by rfl, ?_⟩) ?_ ?_
   rotate_left
   ·intro w'
    go_simp
    with_reducible rfl
   rotate_left
   ·simp only [Act.put, List.setIfInBounds_toArray, List.set_cons_zero, List.set_cons_succ, i64_w, i32_w]
    rfl
   refine pure_ (i := 5) (N := some 43) (v := ?_) (a' := ?_) #[true, true, true, true, true, true, false, false, false, false] rfl rfl (by kernel_rfl) (fun _ _ _ h => h) (Or.inl ⟨by rfl, ?_⟩) ?_ ?_
   rotate_left
   ·intro w'
    go_simp
    with_reducible rfl
   rotate_left
   ·simp only [Act.put, List.setIfInBounds_toArray, List.set_cons_zero, List.set_cons_succ, i64_w, i32_w]
    rfl
   refine pure_ (i := 6) (N := some 44) (v := ?_) (a' := ?_) #[true, true, true, true, true, true, true, false, false, false] rfl rfl (by kernel_rfl) (fun _ _ _ h => h) (Or.inl ⟨by rfl, ?_⟩) ?_ ?_
   rotate_left
   ·intro w'
    go_simp
    with_reducible rfl
   rotate_left
   ·simp only [Act.put, List.setIfInBounds_toArray, List.set_cons_zero, List.set_cons_succ, i64_w, i32_w]
    rfl
   refine one_ (i := 7) (N := some 45) #[true, true, true, true, true, true, true, true, false, false] rfl rfl (by kernel_rfl) (by decide) (fun K hK => ?_)
   refine event_step (w1 := W6) (v := .int .i64 (d : Int)) rfl (by simp [execOp, resolve, invoke, builtin, Act.eval, HCP.out, Result.andThen]) ?_
   refine hK.out _ _ trivial (fun hHeld2 => ?_)
   clear hK K
   refine norm_ (a' := ?_) ?_ ?_
   rotate_left
   ·show Act.put _ (some 45) _ = _
    simp only [Act.put, List.setIfInBounds_toArray, List.set_cons_zero, List.set_cons_succ, i64_w, i32_w]
    rfl
   refine pure_ (i := 8) (N := some 46) (v := ?_) (a' := ?_) #[true, true, true, true, true, true, true, true, true, false] rfl rfl (by kernel_rfl) (fun _ _ _ h => h) (Or.inl ⟨by rfl, ?_⟩) ?_ ?_
   rotate_left
   ·intro w'
    go_simp
    with_reducible rfl
   rotate_left
   ·simp only [Act.put, List.setIfInBounds_toArray, List.set_cons_zero, List.set_cons_succ, i64_w, i32_w]
    rfl
   refine pure_ (i := 9) (N := some 8) (v := ?_) (a' := ?_) #[true, true, true, true, true, true, true, true, true, true] rfl rfl (by kernel_rfl) (fun _ _ _ h => h) (Or.inl ⟨by rfl, ?_⟩) ?_ ?_
   rotate_left
   ·intro w'
    go_simp
    with_reducible rfl
   rotate_left
   ·simp only [Act.put, List.setIfInBounds_toArray, List.set_cons_zero, List.set_cons_succ, i64_w, i32_w]
    rfl
   refine done_ (by kernel_rfl) ?_
   go_wp2
   go_roundw
   case rel => exact ⟨m + d, by first | rfl | go_num, Lib.hid ⟨HD.out.2, .inl (by omega)⟩, H6, HB6⟩
   case measure => have := HD.out; simp [intOf]; omega

-- PXIMPORT YtedbbpefogcjnaaGKey
/-! ### block_Make: function 22, by hand -/
def dv_Make (n : Int) : Dv × Int := if 0 ≤ n ∧ n ≤ 4096 then (⟨List.replicate n.toNat (dv_zeros 64), [], -1, false⟩, 0) else (dv_zero, 1)
def block_Make.f (a0 : Int) : Option (List ByteArray × (List (S39)) × Int × Bool × Int) := some (dv_five (dv_Make a0))
set_option maxHeartbeats 2000000 in
set_option maxRecDepth 100000 in
theorem block_Make.calls (a0 : Int) (r1 : List ByteArray) (r2 : List (S39)) (r3 : Int) (r4 : Bool) (r5 : Int) (w : World) (h : block_Make.f a0 = some (r1, r2, r3, r4, r5)) :
  Calls Try.prog 22 #[.int .i64 a0] w fun e w' => ∃ v0_ v1_ : Value, e = .returned (.tuple #[.agg #[v0_, v1_, .int .i64 r3, .bool r4], .int .i64 r5]) ∧ Kd.V Kd.string 9 w' w.heap.size (fun k_ => (w.heap.size ≤ k_)) v0_ r1 ∧ Kd.V k39 39 w' w.heap.size (fun k_ => (w.heap.size ≤ k_)) v1_ r2 ∧ Below w.heap.size w w' := by
 have hu := Try.underlying25
 have H := Option.some.inj h
 clear h
 unfold dv_Make dv_five at H
 have hb := below_alloc (Below.refl w.heap.size w) (.cells #[.slice none 0 0, .slice none 0 0, .int .i64 0, .bool false] 25)
 have hn := blk_new w (.cells #[.slice none 0 0, .slice none 0 0, .int .i64 0, .bool false] 25)
 have HB := Lib.hid hb
 have HN := Lib.hid hn
 clear hb hn
 by_cases c : 0 ≤ a0 ∧ a0 ≤ 4096
 rotate_left
 ·rw [if_neg c] at H
  simp only [Prod.mk.injEq] at H
  obtain ⟨rfl, rfl, rfl, rfl, rfl⟩ := H
  by_cases c1 : a0 < 0
  ·go_enter Try.func22, Try.ntmps22
   go_wp2_with (refine keys_store_row rfl 25 (.tmp 2) (.tmp 11) rfl (w.heap.size) _ #[.slice none 0 0, .slice none 0 0, .int .i64 0, .bool false] 25 rfl rfl HN.out rfl (by kernel_rfl) (by intro v hv; simp at hv; rcases hv with rfl | rfl | rfl | rfl <;> rfl) ?_)
   have o1 := setRow_heap _ (w.heap.size) _ #[.slice none 0 0, .slice none 0 0, .int .i64 0, .bool false] 25 _ HN.out
   obtain ⟨x0, x1, x2, x3⟩ := blk_cells4 o1
   refine bodyPost_ret (v := .tuple #[.agg #[.slice none 0 0, .slice none 0 0, .int .i64 0, .bool false], .int .i64 1]) (by simp [results, Try.results22, go_sem, x0, x1, x2, x3]) rfl ⟨_, _, rfl, Kd.V_nil _ _ _ _ _, Kd.V_nil _ _ _ _ _, keys_below_setRow HB.out (Nat.le_refl _) _⟩
  ·have c2 : 4096 < a0 := by omega
   go_enter Try.func22, Try.ntmps22
   go_wp2_with (refine keys_store_row rfl 25 (.tmp 2) (.tmp 11) rfl (w.heap.size) _ #[.slice none 0 0, .slice none 0 0, .int .i64 0, .bool false] 25 rfl rfl HN.out rfl (by kernel_rfl) (by intro v hv; simp at hv; rcases hv with rfl | rfl | rfl | rfl <;> rfl) ?_)
   have o1 := setRow_heap _ (w.heap.size) _ #[.slice none 0 0, .slice none 0 0, .int .i64 0, .bool false] 25 _ HN.out
   obtain ⟨x0, x1, x2, x3⟩ := blk_cells4 o1
   refine bodyPost_ret (v := .tuple #[.agg #[.slice none 0 0, .slice none 0 0, .int .i64 0, .bool false], .int .i64 1]) (by simp [results, Try.results22, go_sem, x0, x1, x2, x3]) rfl ⟨_, _, rfl, Kd.V_nil _ _ _ _ _, Kd.V_nil _ _ _ _ _, keys_below_setRow HB.out (Nat.le_refl _) _⟩
 rw [if_pos c] at H
 simp only [Prod.mk.injEq] at H
 obtain ⟨rfl, rfl, rfl, rfl, rfl⟩ := H
 obtain ⟨n, rfl⟩ : ∃ n : Nat, a0 = (n : Int) := ⟨a0.toNat, by omega⟩
 rw [Int.toNat_natCast]
 have hn4 : n ≤ 4096 := by omega
 have c1 : ¬ (n : Int) < 0 := by omega
 have c2 : ¬ (4096 : Int) < (n : Int) := by omega
 have d2 : decide ((4096 : Int) < (n : Int)) = false := decide_eq_false c2
 clear c
 have HREP : Calls Try.prog 32 #[.string ⟨#[0]⟩, .int .i64 64] (w.alloc (.cells #[.slice none 0 0, .slice none 0 0, .int .i64 0, .bool false] 25)) (fun e w_ => e = .returned (.string (dv_zeros 64)) ∧ _) := Try.strings_Repeat ⟨#[0]⟩ 64 _ (by omega) (by show 1 * 64 ≤ _; omega)
 generalize dv_zeros 64 = z at HREP ⊢
 go_enter Try.func22, Try.ntmps22
 go_wp2_with (first | (go_at_call 32; refine HREP.mono ?_; rintro e w3 ⟨rfl, hb3⟩; have HB3 := Lib.hid (below_then HB.out HB.out.size hb3); have HN3 := Lib.hid ((hb3.block _ (blk_lt HN.out)).trans HN.out); have hb4 := below_alloc (Below.refl w3.heap.size w3) (.cells #[.string z] 9); have HB4 := Lib.hid (below_then HB3.out HB3.out.size hb4); have HN4 := Lib.hid ((hb4.block _ (blk_lt HN3.out)).trans HN3.out); have HSR := Lib.hid (slices_repeat z n hn4 w3.heap.size (w3.alloc (.cells #[.string z] 9)) ((blk_cell (blk_new _ _) 0).trans rfl)); clear hb3 hb4) | (go_at_call 33; refine HSR.out.mono ?_; rintro e w5 ⟨b, rfl, hbb, ht5, hb5⟩; have HB5 := Lib.hid (below_then HB4.out HB4.out.size hb5); have HN5 := Lib.hid ((hb5.block _ (blk_lt HN4.out)).trans HN4.out); have HT5 := Lib.hid ht5; have HBB := Lib.hid hbb; clear hb5 ht5 hbb) | (refine keys_store_row rfl 25 (.tmp 2) (.tmp 17) rfl (w.heap.size) _ #[.slice (some ⟨b, 0, none⟩) n n, .slice none 0 0, .int .i64 (-1), .bool false] 25 rfl rfl HN5.out rfl (by kernel_rfl) (by intro v hv; simp at hv; rcases hv with rfl | rfl | rfl | rfl <;> rfl) ?_))
 have o1 := setRow_heap w5 (w.heap.size) _ #[.slice (some ⟨b, 0, none⟩) n n, .slice none 0 0, .int .i64 (-1), .bool false] 25 _ HN5.out
 obtain ⟨x0, x1, x2, x3⟩ := blk_cells4 o1
 have hsz := HB4.out.size
 have hbb := HBB.out
 have hne : ∀ k, (Value.slice (some ⟨b, 0, none⟩) n n).ownBlock = some k → k ≠ w.heap.size ∧ w.heap.size ≤ k := fun k hk => by
  have : b = k := by simpa [Value.ownBlock] using hk
  have hl := blk_lt HN4.out
  omega
 refine bodyPost_ret (v := .tuple #[.agg #[.slice (some ⟨b, 0, none⟩) n n, .slice none 0 0, .int .i64 (-1), .bool false], .int .i64 0]) (by simp [results, Try.results22, go_sem, x0, x1, x2, x3]) rfl ⟨_, _, rfl, (HT5.out.moved (fun k hk => setRow_other w5 w.heap.size k _ (hne k hk).1)).toV (d := Kd.string) (fun _ _ => rfl) (fun _ => rfl) rfl w.heap.size (fun k hk => (hne k hk).2), Kd.V_nil _ _ _ _ _, keys_below_setRow HB5.out (Nat.le_refl _) _⟩


-- PXIMPORT Derived.BigRegion
/-! ### block_Same: function 9, by hand -/
def dv_eqs (D X : Dv) (n : Nat) : Bool := (List.range n).all fun i => (dv_has D (i : Int)).toList == (dv_has X (i : Int)).toList
def dv_Same (D X : Dv) : Bool × Int := if dv_check D = 0 then if dv_check X = 0 then if D.b.length = X.b.length then (dv_eqs D X D.b.length, 0) else (false, 0) else (false, 2) else (false, 2)
def block_Same.f (l0_0 : List ByteArray) (l0_1 : List (S39)) (a0_2 : Int) (a0_3 : Bool) (l1_0 : List ByteArray) (l1_1 : List (S39)) (a1_2 : Int) (a1_3 : Bool) : Option (Bool × Int) := some (dv_Same ⟨l0_0, l0_1, a0_2, a0_3⟩ ⟨l1_0, l1_1, a1_2, a1_3⟩)
theorem dv_eqs_yes {D X : Dv} {n k : Nat} (hk : k < n) (h : ∀ j, j < k → (dv_has D (j : Int)).toList = (dv_has X (j : Int)).toList) (h2 : (dv_has D (k : Int)).toList ≠ (dv_has X (k : Int)).toList) : dv_eqs D X n = false := by
 unfold dv_eqs
 rw [List.all_eq_false]
 exact ⟨k, List.mem_range.2 hk, by simpa using h2⟩
theorem dv_eqs_all {D X : Dv} {n : Nat} (h : ∀ j, j < n → (dv_has D (j : Int)).toList = (dv_has X (j : Int)).toList) : dv_eqs D X n = true := by
 unfold dv_eqs
 rw [List.all_eq_true]
 intro j hj
 simpa using h j (List.mem_range.1 hj)
theorem DR.mk_ {w : World} {A1 A2 : Option Addr} {c1 c2 : Nat} {D : Dv} (hC1 : Kd.C Kd.string w A1 D.b.length D.b) (hl1 : D.b.length ≤ c1) (hC2 : Kd.C k39 w A2 D.w.length D.w) (hl2 : D.w.length ≤ c2) : DR (w.alloc (.cells #[.slice A1 D.b.length c1, .slice A2 D.w.length c2, .int .i64 D.f, .bool D.d] 50)) w.heap.size D :=
 ⟨A1, c1, A2, c2, blk_new w _, hl1, hl2, Kd.C_below hC1 (below_alloc (Below.refl _ _) _), Kd.C_below hC2 (below_alloc (Below.refl _ _) _)⟩
set_option maxHeartbeats 2000000 in
set_option maxRecDepth 100000 in
theorem block_Same.calls (A0_0 : Option Addr) (c0_0 : Nat) (l0_0 : List ByteArray) (A0_1 : Option Addr) (c0_1 : Nat) (l0_1 : List (S39)) (a0_2 : Int) (a0_3 : Bool) (A1_0 : Option Addr) (c1_0 : Nat) (l1_0 : List ByteArray) (A1_1 : Option Addr) (c1_1 : Nat) (l1_1 : List (S39)) (a1_2 : Int) (a1_3 : Bool) (r1 : Bool) (r2 : Int) (w : World) (hr0_0 : Kd.C Kd.string w A0_0 l0_0.length l0_0) (hc0_0 : l0_0.length ≤ c0_0) (hr0_1 : Kd.C k39 w A0_1 l0_1.length l0_1) (hc0_1 : l0_1.length ≤ c0_1) (hr1_0 : Kd.C Kd.string w A1_0 l1_0.length l1_0) (hc1_0 : l1_0.length ≤ c1_0) (hr1_1 : Kd.C k39 w A1_1 l1_1.length l1_1) (hc1_1 : l1_1.length ≤ c1_1) (h : block_Same.f l0_0 l0_1 a0_2 a0_3 l1_0 l1_1 a1_2 a1_3 = some (r1, r2)) :
  Calls Try.prog 9 #[.agg #[.slice A0_0 l0_0.length c0_0, .slice A0_1 l0_1.length c0_1, .int .i64 a0_2, .bool a0_3], .agg #[.slice A1_0 l1_0.length c1_0, .slice A1_1 l1_1.length c1_1, .int .i64 a1_2, .bool a1_3]] w fun e w' => e = .returned (.tuple #[.bool r1, .int .i64 r2]) ∧ Below w.heap.size w w' := by
 have hu := Try.underlying50
 have hu2 := Try.underlying25
 obtain ⟨D, hD⟩ : ∃ D : Dv, D = ⟨l0_0, l0_1, a0_2, a0_3⟩ := ⟨_, rfl⟩
 obtain ⟨X, hX⟩ : ∃ D : Dv, D = ⟨l1_0, l1_1, a1_2, a1_3⟩ := ⟨_, rfl⟩
 unfold block_Same.f at h
 rw [← hD, ← hX] at h
 obtain ⟨rfl, rfl, rfl, rfl⟩ : l0_0 = D.b ∧ l0_1 = D.w ∧ a0_2 = D.f ∧ a0_3 = D.d := by rw [hD]; exact ⟨rfl, rfl, rfl, rfl⟩
 obtain ⟨rfl, rfl, rfl, rfl⟩ : l1_0 = X.b ∧ l1_1 = X.w ∧ a1_2 = X.f ∧ a1_3 = X.d := by rw [hX]; exact ⟨rfl, rfl, rfl, rfl⟩
 clear hD hX
 have hE := (Option.some.inj h).symm
 clear h
 have hb := below_alloc (below_alloc (Below.refl w.heap.size w) (.cells #[.slice A0_0 D.b.length c0_0, .slice A0_1 D.w.length c0_1, .int .i64 D.f, .bool D.d] 25)) (.cells #[.slice A1_0 X.b.length c1_0, .slice A1_1 X.w.length c1_1, .int .i64 X.f, .bool X.d] 25)
 have hn0 := blk_alloc (blk_new w (.cells #[.slice A0_0 D.b.length c0_0, .slice A0_1 D.w.length c0_1, .int .i64 D.f, .bool D.d] 25)) (.cells #[.slice A1_0 X.b.length c1_0, .slice A1_1 X.w.length c1_1, .int .i64 X.f, .bool X.d] 25)
 have hn1 := blk_new (w.alloc (.cells #[.slice A0_0 D.b.length c0_0, .slice A0_1 D.w.length c0_1, .int .i64 D.f, .bool D.d] 25)) (.cells #[.slice A1_0 X.b.length c1_0, .slice A1_1 X.w.length c1_1, .int .i64 X.f, .bool X.d] 25)
 rw [World.size_alloc] at hn1
 have HC1 := Lib.hid (block_Check.calls A0_0 c0_0 D.b A0_1 c0_1 D.w D.f D.d (dv_check D) _ (Kd.C_below hr0_0 hb) hc0_0 (Kd.C_below hr0_1 hb) hc0_1 rfl)
 have HCC := Lib.hid (fun (W : World) (hbw : Below w.heap.size w W) => block_Check.calls A1_0 c1_0 X.b A1_1 c1_1 X.w X.f X.d (dv_check X) W (Kd.C_below hr1_0 hbw) hc1_0 (Kd.C_below hr1_1 hbw) hc1_1 rfl)
 have HK := Lib.hid (And.intro hr0_0 (And.intro hr0_1 (And.intro hr1_0 hr1_1)))
 have HB := Lib.hid hb
 have HN0 := Lib.hid hn0
 have HN1 := Lib.hid hn1
 clear hr0_0 hr0_1 hr1_0 hr1_1 hb hn0 hn1
 unfold dv_Same at hE
 by_cases c1 : dv_check D = 0
 rotate_left
 ·rw [if_neg c1] at hE
  simp only [Prod.mk.injEq] at hE
  obtain ⟨rfl, rfl⟩ := hE
  generalize dv_check D = r at HC1 c1 ⊢
  have d : (r != 0) = true := bne_iff_ne.mpr c1
  go_enter Try.func9, Try.ntmps9
  go_wp2_with (first | (go_at_call 16; refine HC1.out.mono ?_; rintro e w3 ⟨rfl, hb3⟩; have HB3 := Lib.hid (below_then HB.out HB.out.size hb3); clear hb3))
  go_ret2
  exact ⟨rfl, HB3.out⟩
 rw [if_pos c1] at hE
 rw [c1] at HC1
 clear c1
 by_cases c2 : dv_check X = 0
 rotate_left
 ·rw [if_neg c2] at hE
  simp only [Prod.mk.injEq] at hE
  obtain ⟨rfl, rfl⟩ := hE
  generalize dv_check X = r at HCC c2 ⊢
  have d : (r != 0) = true := bne_iff_ne.mpr c2
  go_enter Try.func9, Try.ntmps9
  go_wp2_with (first | (go_at_call_of 16 (Value.agg #[.slice A0_0 D.b.length c0_0, .slice A0_1 D.w.length c0_1, .int .i64 D.f, .bool D.d]); with_reducible refine HC1.out.mono ?_; rintro e w3 ⟨rfl, hb3⟩; have HB3 := Lib.hid (below_then HB.out HB.out.size hb3); obtain ⟨x0, x1, x2, x3⟩ := blk_cells4 ((hb3.block _ (blk_lt HN1.out)).trans HN1.out); clear hb3) | (go_at_call 16; refine (HCC.out _ HB3.out).mono ?_; rintro e w4 ⟨rfl, hb4⟩; have HB4 := Lib.hid (below_then HB3.out HB3.out.size hb4); clear hb4))
  go_ret2
  exact ⟨rfl, HB4.out⟩
 rw [if_pos c2] at hE
 rw [c2] at HCC
 clear c2
 go_enter Try.func9, Try.ntmps9
 go_upto_region 3 with (first | (go_at_call_of 16 (Value.agg #[.slice A0_0 D.b.length c0_0, .slice A0_1 D.w.length c0_1, .int .i64 D.f, .bool D.d]); with_reducible refine HC1.out.mono ?_; rintro e w3 ⟨rfl, hb3⟩; have HB3 := Lib.hid (below_then HB.out HB.out.size hb3); have HN03 := Lib.hid ((hb3.block _ (blk_lt HN0.out)).trans HN0.out); have HN13 := Lib.hid ((hb3.block _ (blk_lt HN1.out)).trans HN1.out); obtain ⟨x0, x1, x2, x3⟩ := blk_cells4 HN13.out; clear hb3) | (go_at_call 16; refine (HCC.out _ HB3.out).mono ?_; rintro e w4 ⟨rfl, hb4⟩; have HB4 := Lib.hid (below_then HB3.out HB3.out.size hb4); have hm0 := (hb4.block _ (blk_lt HN03.out)).trans HN03.out; have hm1 := (hb4.block _ (blk_lt HN13.out)).trans HN13.out; clear hb4))
 obtain ⟨p0, p1, p2, p3⟩ := blk_cells4 hm0
 obtain ⟨q0, q1, q2, q3⟩ := blk_cells4 hm1
 have mixed : Try.prog.follows Departure.mixedOrders = true := by kernel_rfl
 obtain ⟨s, hs⟩ : ∃ s, s = w.heap.size := ⟨_, rfl⟩
 rw [← hs] at p0 p1 p2 p3 q0 q1 q2 q3 ⊢
 have HS := Lib.hid hs
 have HE := Lib.hid hE
 clear hm0 hm1 x0 x1 x2 x3 hs hE
 refine start_ (n := 8) (S := fun w' => w'.cell? ⟨s, 0, none⟩ = some (.slice A0_0 D.b.length c0_0) ∧ w'.cell? ⟨s, 1, none⟩ = some (.slice A0_1 D.w.length c0_1) ∧ w'.cell? ⟨s, 2, none⟩ = some (.int .i64 D.f) ∧ w'.cell? ⟨s, 3, none⟩ = some (.bool D.d) ∧ w'.cell? ⟨s + 1, 0, none⟩ = some (.slice A1_0 X.b.length c1_0) ∧ w'.cell? ⟨s + 1, 1, none⟩ = some (.slice A1_1 X.w.length c1_1) ∧ w'.cell? ⟨s + 1, 2, none⟩ = some (.int .i64 X.f) ∧ w'.cell? ⟨s + 1, 3, none⟩ = some (.bool X.d)) (ds := []) #[false, false, false, false, false, false, false, false] (by kernel_rfl) rfl rfl (⟨p0, p1, p2, p3, q0, q1, q2, q3⟩) (fun hHeld => ?_)
 refine take_ (i := 0) (N := some 17) (v := ?_) (a' := ?_) #[true, false, false, false, false, false, false, false] rfl rfl (by kernel_rfl) (fun _ _ _ h => h) (Or.inl ⟨by rfl, ?_⟩) hHeld ?_ ?_
 rotate_left
 ·rintro w' ⟨s0, s1, s2, s3, s4, s5, s6, s7⟩
  go_simp
  with_reducible rfl
 rotate_left
 ·simp only [Act.put, List.setIfInBounds_toArray, List.set_cons_zero, List.set_cons_succ, i64_w, i32_w]
  rfl
 refine pure_ (i := 1) (N := some 18) (v := ?_) (a' := ?_) #[true, true, false, false, false, false, false, false] rfl rfl (by kernel_rfl) (fun _ _ _ h => h) (Or.inl ⟨by rfl, ?_⟩) ?_ ?_
 rotate_left
 ·intro w'
  go_simp
  with_reducible rfl
 rotate_left
 ·simp only [Act.put, List.setIfInBounds_toArray, List.set_cons_zero, List.set_cons_succ, i64_w, i32_w]
  rfl
 refine take_ (i := 3) (N := some 20) (v := ?_) (a' := ?_) #[true, true, false, true, false, false, false, false] rfl rfl (by kernel_rfl) (fun _ _ _ h => h) (Or.inl ⟨by rfl, ?_⟩) hHeld ?_ ?_
 rotate_left
 ·rintro w' ⟨s0, s1, s2, s3, s4, s5, s6, s7⟩
  go_simp
  with_reducible rfl
 rotate_left
 ·simp only [Act.put, List.setIfInBounds_toArray, List.set_cons_zero, List.set_cons_succ, i64_w, i32_w]
  rfl
 refine pure_ (i := 4) (N := some 21) (v := ?_) (a' := ?_) #[true, true, false, true, true, false, false, false] rfl rfl (by kernel_rfl) (fun _ _ _ h => h) (Or.inl ⟨by rfl, ?_⟩) ?_ ?_
 rotate_left
 ·intro w'
  go_simp
  with_reducible rfl
 rotate_left
 ·simp only [Act.put, List.setIfInBounds_toArray, List.set_cons_zero, List.set_cons_succ, i64_w, i32_w]
  rfl
 have hB5 : Below w.heap.size w w4.drew := below_drew1 HB4.out
 have HS5 := Lib.hid hHeld
 generalize w4.drew = w5 at hB5 HS5 ⊢
 have HB5 := Lib.hid hB5
 have hk := HK.out
 have hk5 : Kd.C Kd.string w5 A0_0 D.b.length D.b ∧ Kd.C k39 w5 A0_1 D.w.length D.w ∧ Kd.C Kd.string w5 A1_0 X.b.length X.b ∧ Kd.C k39 w5 A1_1 X.w.length X.w := ⟨Kd.C_below hk.1 hB5, Kd.C_below hk.2.1 hB5, Kd.C_below hk.2.2.1 hB5, Kd.C_below hk.2.2.2 hB5⟩
 have HK5 := Lib.hid hk5
 clear hHeld p0 p1 p2 p3 q0 q1 q2 q3 hB5 hk hk5
 refine join_ (σ := Nat × Nat) 0 #[true, true, true, true, true, true, true, true] (fun s => [(19, .pointer (some ⟨s.1, 0, none⟩)), (22, .pointer (some ⟨s.2, 0, none⟩)), (6, .pointer (some ⟨s.1, 0, none⟩)), (7, .pointer (some ⟨s.2, 0, none⟩))]) (fun s W => DR W s.1 D ∧ DR W s.2 X ∧ Below w.heap.size w W) ?_ ?_
 rotate_left
 ·intro hcont
  refine two_ (i := 2) (j := 5) (Ni := some 19) (Nj := some 22) #[true, true, true, true, true, false, false, false] #[true, true, false, true, true, true, false, false] rfl rfl rfl rfl (by kernel_rfl) (by decide) (by decide) (fun K hK => ?_) (fun K hK => ?_)
  ·refine event_step (w1 := w5.alloc (.cells #[.slice A0_0 D.b.length c0_0, .slice A0_1 D.w.length c0_1, .int .i64 D.f, .bool D.d] 50)) (v := .pointer (some ⟨w5.heap.size, 0, none⟩)) rfl (by go_simp) ?_
   have hb6 := below_alloc (Below.refl w5.heap.size w5) (.cells #[.slice A0_0 D.b.length c0_0, .slice A0_1 D.w.length c0_1, .int .i64 D.f, .bool D.d] 50)
   have hd6 := DR.mk_ HK5.out.1 hc0_0 HK5.out.2.1 hc0_1
   refine hK.out _ _ (by obtain ⟨a0, a1, a2, a3, b0, b1, b2, b3⟩ := HS5.out; exact ⟨pw_cell_below hb6 a0, pw_cell_below hb6 a1, pw_cell_below hb6 a2, pw_cell_below hb6 a3, pw_cell_below hb6 b0, pw_cell_below hb6 b1, pw_cell_below hb6 b2, pw_cell_below hb6 b3⟩) (fun hHeld => ?_)
   clear hK K
   refine norm_ (a' := ?_) ?_ ?_
   rotate_left
   ·show Act.put _ (some 19) _ = _
    simp only [Act.put, List.setIfInBounds_toArray, List.set_cons_zero, List.set_cons_succ, i64_w, i32_w]
    rfl
   refine pure_ (i := 6) (N := some 6) (v := ?_) (a' := ?_) #[true, true, true, true, true, false, true, false] rfl rfl (by kernel_rfl) (fun _ _ _ h => h) (Or.inl ⟨by rfl, ?_⟩) ?_ ?_
   rotate_left
   ·intro w'
    go_simp
    with_reducible rfl
   rotate_left
   ·simp only [Act.put, List.setIfInBounds_toArray, List.set_cons_zero, List.set_cons_succ, i64_w, i32_w]
    rfl
   refine one_ (i := 5) (N := some 22) #[true, true, true, true, true, true, true, false] rfl rfl (by kernel_rfl) (by decide) (fun K hK => ?_)
   refine event_step (w1 := (w5.alloc (.cells #[.slice A0_0 D.b.length c0_0, .slice A0_1 D.w.length c0_1, .int .i64 D.f, .bool D.d] 50)).alloc (.cells #[.slice A1_0 X.b.length c1_0, .slice A1_1 X.w.length c1_1, .int .i64 X.f, .bool X.d] 50)) (v := .pointer (some ⟨w5.heap.size + 1, 0, none⟩)) rfl (by go_simp) ?_
   have hb7 := below_alloc (Below.refl (w5.alloc (.cells #[.slice A0_0 D.b.length c0_0, .slice A0_1 D.w.length c0_1, .int .i64 D.f, .bool D.d] 50)).heap.size (w5.alloc (.cells #[.slice A0_0 D.b.length c0_0, .slice A0_1 D.w.length c0_1, .int .i64 D.f, .bool D.d] 50))) (.cells #[.slice A1_0 X.b.length c1_0, .slice A1_1 X.w.length c1_1, .int .i64 X.f, .bool X.d] 50)
   have hd7 := DR.mk_ (Kd.C_below HK5.out.2.2.1 hb6) hc1_0 (Kd.C_below HK5.out.2.2.2 hb6) hc1_1
   rw [World.size_alloc] at hd7
   refine hK.out _ _ (by obtain ⟨a0, a1, a2, a3, b0, b1, b2, b3⟩ := hHeld; exact ⟨pw_cell_below hb7 a0, pw_cell_below hb7 a1, pw_cell_below hb7 a2, pw_cell_below hb7 a3, pw_cell_below hb7 b0, pw_cell_below hb7 b1, pw_cell_below hb7 b2, pw_cell_below hb7 b3⟩) (fun hHeld => ?_)
   clear hK K
   refine norm_ (a' := ?_) ?_ ?_
   rotate_left
   ·show Act.put _ (some 22) _ = _
    simp only [Act.put, List.setIfInBounds_toArray, List.set_cons_zero, List.set_cons_succ, i64_w, i32_w]
    rfl
   refine pure_ (i := 7) (N := some 7) (v := ?_) (a' := ?_) #[true, true, true, true, true, true, true, true] rfl rfl (by kernel_rfl) (fun _ _ _ h => h) (Or.inl ⟨by rfl, ?_⟩) ?_ ?_
   rotate_left
   ·intro w'
    go_simp
    with_reducible rfl
   rotate_left
   ·simp only [Act.put, List.setIfInBounds_toArray, List.set_cons_zero, List.set_cons_succ, i64_w, i32_w]
    rfl
   exact hcont (w5.heap.size, w5.heap.size + 1) _ ⟨hd6.below hb7, hd7, below_then (below_then HB5.out HB5.out.size hb6) (below_then HB5.out HB5.out.size hb6).size hb7⟩
  ·refine event_step (w1 := w5.alloc (.cells #[.slice A1_0 X.b.length c1_0, .slice A1_1 X.w.length c1_1, .int .i64 X.f, .bool X.d] 50)) (v := .pointer (some ⟨w5.heap.size, 0, none⟩)) rfl (by go_simp) ?_
   have hb6 := below_alloc (Below.refl w5.heap.size w5) (.cells #[.slice A1_0 X.b.length c1_0, .slice A1_1 X.w.length c1_1, .int .i64 X.f, .bool X.d] 50)
   have hd6 := DR.mk_ HK5.out.2.2.1 hc1_0 HK5.out.2.2.2 hc1_1
   refine hK.out _ _ (by obtain ⟨a0, a1, a2, a3, b0, b1, b2, b3⟩ := HS5.out; exact ⟨pw_cell_below hb6 a0, pw_cell_below hb6 a1, pw_cell_below hb6 a2, pw_cell_below hb6 a3, pw_cell_below hb6 b0, pw_cell_below hb6 b1, pw_cell_below hb6 b2, pw_cell_below hb6 b3⟩) (fun hHeld => ?_)
   clear hK K
   refine norm_ (a' := ?_) ?_ ?_
   rotate_left
   ·show Act.put _ (some 22) _ = _
    simp only [Act.put, List.setIfInBounds_toArray, List.set_cons_zero, List.set_cons_succ, i64_w, i32_w]
    rfl
   refine one_ (i := 2) (N := some 19) #[true, true, true, true, true, true, false, false] rfl rfl (by kernel_rfl) (by decide) (fun K hK => ?_)
   refine event_step (w1 := (w5.alloc (.cells #[.slice A1_0 X.b.length c1_0, .slice A1_1 X.w.length c1_1, .int .i64 X.f, .bool X.d] 50)).alloc (.cells #[.slice A0_0 D.b.length c0_0, .slice A0_1 D.w.length c0_1, .int .i64 D.f, .bool D.d] 50)) (v := .pointer (some ⟨w5.heap.size + 1, 0, none⟩)) rfl (by go_simp) ?_
   have hb7 := below_alloc (Below.refl (w5.alloc (.cells #[.slice A1_0 X.b.length c1_0, .slice A1_1 X.w.length c1_1, .int .i64 X.f, .bool X.d] 50)).heap.size (w5.alloc (.cells #[.slice A1_0 X.b.length c1_0, .slice A1_1 X.w.length c1_1, .int .i64 X.f, .bool X.d] 50))) (.cells #[.slice A0_0 D.b.length c0_0, .slice A0_1 D.w.length c0_1, .int .i64 D.f, .bool D.d] 50)
   have hd7 := DR.mk_ (Kd.C_below HK5.out.1 hb6) hc0_0 (Kd.C_below HK5.out.2.1 hb6) hc0_1
   rw [World.size_alloc] at hd7
   refine hK.out _ _ (by obtain ⟨a0, a1, a2, a3, b0, b1, b2, b3⟩ := hHeld; exact ⟨pw_cell_below hb7 a0, pw_cell_below hb7 a1, pw_cell_below hb7 a2, pw_cell_below hb7 a3, pw_cell_below hb7 b0, pw_cell_below hb7 b1, pw_cell_below hb7 b2, pw_cell_below hb7 b3⟩) (fun hHeld => ?_)
   clear hK K
   refine norm_ (a' := ?_) ?_ ?_
   rotate_left
   ·show Act.put _ (some 19) _ = _
    simp only [Act.put, List.setIfInBounds_toArray, List.set_cons_zero, List.set_cons_succ, i64_w, i32_w]
    rfl
   refine pure_ (i := 6) (N := some 6) (v := ?_) (a' := ?_) #[true, true, true, true, true, true, true, false] rfl rfl (by kernel_rfl) (fun _ _ _ h => h) (Or.inl ⟨by rfl, ?_⟩) ?_ ?_
   rotate_left
   ·intro w'
    go_simp
    with_reducible rfl
   rotate_left
   ·simp only [Act.put, List.setIfInBounds_toArray, List.set_cons_zero, List.set_cons_succ, i64_w, i32_w]
    rfl
   refine pure_ (i := 7) (N := some 7) (v := ?_) (a' := ?_) #[true, true, true, true, true, true, true, true] rfl rfl (by kernel_rfl) (fun _ _ _ h => h) (Or.inl ⟨by rfl, ?_⟩) ?_ ?_
   rotate_left
   ·intro w'
    go_simp
    with_reducible rfl
   rotate_left
   ·simp only [Act.put, List.setIfInBounds_toArray, List.set_cons_zero, List.set_cons_succ, i64_w, i32_w]
    rfl
   exact hcont (w5.heap.size + 1, w5.heap.size) _ ⟨hd7, hd6.below hb7, below_then (below_then HB5.out HB5.out.size hb6) (below_then HB5.out HB5.out.size hb6).size hb7⟩
 ·rintro ⟨g1, g2⟩ W ⟨hd1, hd2, hbW⟩
  refine norm_ (a' := ?_) ?_ ?_
  rotate_left
  ·simp only [putAll, Act.put, List.setIfInBounds_toArray, List.set_cons_zero, List.set_cons_succ, i64_w, i32_w]
   rfl
  refine done_ (by kernel_rfl) ?_
  have HD1 := Lib.hid hd1
  have HD2 := Lib.hid hd2
  have HBW := Lib.hid hbW
  have hl1 := hd1.lt
  have hl2 := hd2.lt
  obtain ⟨A1, c1, A2, c2, hrow1, _, _, hc1, _⟩ := hd1
  obtain ⟨A3, c3, A4, c4, hrow2, _, _, hc2, _⟩ := hd2
  have hmax := hc1.2.1
  obtain ⟨p0, _, _, _⟩ := blk_cells4 hrow1
  obtain ⟨q0, _, _, _⟩ := blk_cells4 hrow2
  have mixed : Try.prog.follows Departure.mixedOrders = true := by kernel_rfl
  have HE2 := HE.out
  clear hrow1 hrow2 hc1 hc2 hbW HE HK5 HS5 HB5 HCC HC1 HK HN0 HN1 HN03 HN13 HB HB3 HB4 HS
  by_cases c3_ : D.b.length = X.b.length
  rotate_left
  ·rw [if_neg c3_] at HE2
   simp only [Prod.mk.injEq] at HE2
   obtain ⟨rfl, rfl⟩ := HE2
   have e1 : ((D.b.length : Int) != (X.b.length : Int)) = true := bne_iff_ne.mpr (by omega)
   have e2 : (D.b.length == X.b.length) = false := beq_eq_false_iff_ne.mpr c3_
   have e3 : (D.b.length != X.b.length) = true := bne_iff_ne.mpr c3_
   clear c3_
   go_wp2
   go_quiet (fail)
   go_wp2
   go_ret2
   exact ⟨rfl, by first | exact HBW.out.drewN _ | exact pw_below_drewN HBW.out _⟩
  rw [if_pos c3_] at HE2
  simp only [Prod.mk.injEq] at HE2
  obtain ⟨hr1, rfl⟩ := HE2
  have HR1 := Lib.hid hr1
  have HC3 := Lib.hid c3_
  have e1 : ((D.b.length : Int) != (X.b.length : Int)) = false := by rw [c3_]; simp
  have e2 : (D.b.length == X.b.length) = true := beq_iff_eq.mpr c3_
  have e3 : (D.b.length != X.b.length) = false := by rw [bne, e2]; rfl
  clear hr1 c3_
  go_wp2
  go_quiet (fail)
  have hbn : Below W.heap.size W (W.drewN nq) := pw_below_drewN (Below.refl _ _) _
  have p0n := pw_cell_below hbn p0
  have HBN := Lib.hid hbn
  clear hbn p0 q0 e1 e2 e3
  go_wp2
  go_loopw [42] (fun v42 wr => ∃ (k : Nat), v42 = .int .i64 (k : Int) ∧ k ≤ D.b.length ∧ Hid (Below W.heap.size W wr) ∧ Hid (∀ j, j < k → (dv_has D (j : Int)).toList = (dv_has X (j : Int)).toList)) (fun v42 _ => D.b.length - (intOf v42).toNat)
  case atStart => exact ⟨0, rfl, Nat.zero_le _, HBN, Lib.hid (fun j hj => absurd hj (by omega))⟩
  case round =>
   clear p0n HBN
   obtain ⟨k, rfl, hk, HB1, HA⟩ := hrel
   by_cases hlt : k < D.b.length
   rotate_left
   ·obtain rfl : k = D.b.length := by omega
    have q1 : ¬ ((D.b.length : Int) < (D.b.length : Int)) := by omega
    go_wp2
    go_ret2
    rw [HR1.out, dv_eqs_all HA.out]
    exact ⟨rfl, below_then HBW.out HBW.out.size HB1.out⟩
   ·have q1 : ((k : Int) < (D.b.length : Int)) := by omega
    have H1 := Lib.hid (dev_has g1 D (k : Int) wr (HD1.out.below HB1.out) (by omega) q1)
    have H2 := Lib.hid (fun (W' : World) (hb : Below wr.heap.size wr W') => dev_has g2 X (k : Int) W' (HD2.out.below (HB1.out.trans (hb.mono HB1.out.size))) (by omega) (by have := HC3.out; omega))
    have hyes := fun h => dv_eqs_yes (X := X) hlt HA.out h
    obtain ⟨a, ha⟩ : ∃ a, a = dv_has D (k : Int) := ⟨_, rfl⟩
    obtain ⟨b, hb⟩ : ∃ b, b = dv_has X (k : Int) := ⟨_, rfl⟩
    rw [← ha] at H1 hyes
    rw [← hb] at H2 hyes
    have HAB := Lib.hid (And.intro ha hb)
    have HY := Lib.hid hyes
    clear ha hb hyes
    by_cases cq : a.toList = b.toList
    ·have d1 : (a.toList != b.toList) = false := by rw [bne, beq_iff_eq.mpr cq]; rfl
     have d2 : (a.toList == b.toList) = true := beq_iff_eq.mpr cq
     have HQ := Lib.hid cq
     clear cq
     go_wp2_with (first | (go_at_call_of 20 (Value.pointer (some ⟨g1, 0, none⟩)); with_reducible refine H1.out.mono ?_; rintro e w7 ⟨rfl, hb7⟩; have HB7 := Lib.hid hb7; clear hb7) | (go_at_call 20; refine (H2.out _ HB7.out).mono ?_; rintro e w8 ⟨rfl, hb8⟩; have HB8 := Lib.hid hb8; clear hb8))
     go_roundw
     case rel => exact ⟨k + 1, by first | rfl | go_num, by omega, Lib.hid (below_then (below_then HB1.out HB1.out.size HB7.out) (below_then HB1.out HB1.out.size HB7.out).size HB8.out), Lib.hid (fun j hj => by
      rcases Nat.lt_succ_iff_lt_or_eq.1 hj with h | h
      ·exact HA.out j h
      ·subst h
       rw [← HAB.out.1, ← HAB.out.2]
       exact HQ.out)⟩
     case measure => simp [intOf]; omega
    ·have d1 : (a.toList != b.toList) = true := by rw [bne, beq_eq_false_iff_ne.mpr cq]; rfl
     have d2 : (a.toList == b.toList) = false := beq_eq_false_iff_ne.mpr cq
     have HQ := Lib.hid cq
     clear cq
     go_wp2_with (first | (go_at_call_of 20 (Value.pointer (some ⟨g1, 0, none⟩)); with_reducible refine H1.out.mono ?_; rintro e w7 ⟨rfl, hb7⟩; have HB7 := Lib.hid hb7; clear hb7) | (go_at_call 20; refine (H2.out _ HB7.out).mono ?_; rintro e w8 ⟨rfl, hb8⟩; have HB8 := Lib.hid hb8; clear hb8))
     go_ret2
     rw [HR1.out, HY.out HQ.out]
     have hx1 := below_then HBW.out HBW.out.size HB1.out
     have hx2 := below_then hx1 hx1.size HB7.out
     exact ⟨rfl, below_then hx2 hx2.size HB8.out⟩


end Go.Proofs.Ytedbbpefogcjnaa.XB
-- squeezed
