-- by px.py, a program of this session, over the kit's printer: functions given by hand stand beside printed ones. Lean checks all of it.
import Derived.Test.YthlnjbaichkipaaDoorZXR0
import Derived.Test.YthlnjbaichkipaaDoorZXR2
import Derived.Test.YthlnjbaichkipaaDoorZXR3
import Derived.Test.YthlnjbaichkipaaDoorZXR4
import Derived.Test.YthlnjbaichkipaaDoorZGDev
import Derived.Test.YthlnjbaichkipaaDoorZGRep
import Derived.Laws.IdiomStrings
import Derived.Lib.AppendZeros
import Derived.Deep.RegionLaw
import Derived.Test.YthlnjbaichkipaaDoorZGKey
namespace Go.Proofs.YthlnjbaichkipaaDoor.XR
open Go.RowKit Go.Proofs.YthlnjbaichkipaaDoorW.PrintWords Go.Proofs.YthlnjbaichkipaaDoorW.PrintLast Go.Proofs.YthlnjbaichkipaaDoorW.PrintMore
attribute [local go_sem] max2_int min2_int max_two min_two max_three min_three max_four min_four   -- for this text's walks alone
set_option linter.unusedVariables false
set_option linter.unusedSimpArgs false
def tr_zeros (n : Nat) : ByteArray := ⟨(Lib.repeatL [0] n).toArray⟩
theorem tr_zeros_size (n : Nat) : (tr_zeros n).size = n := by
 show (Lib.repeatL [0] n).toArray.size = n
 rw [List.size_toArray, Lib.repeatL_length]
 simp
def tr_piece (F : ByteArray) (j : Nat) : ByteArray := F.extract (63 * j) (63 * j + 63) ++ (⟨#[1]⟩ : ByteArray)
def tr_n (F : ByteArray) : Nat := (F.size - 1) / 63
def tr_last (F : ByteArray) : ByteArray := (F.extract (63 * tr_n F) F.size ++ tr_zeros (63 - (F.size - 63 * tr_n F))) ++ (⟨#[2]⟩ : ByteArray)
def tr_outs (F : ByteArray) (i : Nat) : List ByteArray := (List.range i).map (tr_piece F)
def tr_cut (F : ByteArray) : List ByteArray := tr_outs F (tr_n F) ++ [tr_last F]
theorem tr_outs_succ (F : ByteArray) (i : Nat) : tr_outs F (i + 1) = tr_outs F i ++ [tr_piece F i] := by
 unfold tr_outs
 rw [List.range_succ, List.map_append]
 rfl
theorem tr_outs_len (F : ByteArray) (i : Nat) : (tr_outs F i).length = i := by simp [tr_outs]
def strOf : Value → Nat | .string s => s.size | _ => 0
theorem ex_size (F : ByteArray) (a : Nat) (h : a ≤ F.size) : (F.extract a F.size).size = F.size - a := by rw [ByteArray.size_extract]; omega
theorem ex_ex (F : ByteArray) (a b : Nat) (h : a ≤ F.size) : (F.extract a F.size).extract 0 b = F.extract a (a + b) := by
 apply ByteArray.ext
 apply Array.ext'
 simp only [ByteArray.data_extract, Array.toList_extract, List.extract_eq_take_drop, List.drop_zero]
 rw [List.take_take]
 have : F.data.toList.length = F.size := Array.length_toList
 by_cases c : b ≤ F.size - a
 ·congr 1; omega
 ·rw [List.take_of_length_le (by rw [List.length_drop]; omega), List.take_of_length_le (by rw [List.length_drop]; omega)]
theorem ex_drop (F : ByteArray) (a b : Nat) (h : a + b ≤ F.size) : (F.extract a F.size).extract b (F.extract a F.size).size = F.extract (a + b) F.size := by
 rw [ex_size F a (by omega)]
 apply ByteArray.ext
 apply Array.ext'
 simp only [ByteArray.data_extract, Array.toList_extract, List.extract_eq_take_drop]
 rw [List.drop_take, List.drop_drop, List.take_take]
 congr 1
 omega
set_option maxHeartbeats 2000000 in
set_option maxRecDepth 100000 in
theorem tr_frame (s F : ByteArray) (why : Int) (h : sum_Frame.f s = some (F, why)) (hF : F.size ≤ 1000000) (w : World) :
  Calls Tryd.prog 33 #[.string s] w fun e w' => ∃ v, e = .returned (.tuple #[v, .int .i64 why]) ∧ TRow st_enc 1 9 w' v (if why = 0 then tr_cut F else []) ∧ (∀ k, v.ownBlock = some k → w.heap.size ≤ k) ∧ Below w.heap.size w w' := by
 have HS := Lib.hid (sum_Frame.calls s F why w h)
 clear h
 by_cases c : why = 0
 rotate_left
 ·rw [if_neg c]
  have d : (why != 0) = true := bne_iff_ne.mpr c
  go_enter Tryd.func33, Tryd.ntmps33
  go_wp2_with (go_at_call 54; refine HS.out.mono ?_; rintro e w3 ⟨rfl, hb3⟩; have HB3 := Lib.hid hb3; clear hb3)
  go_ret2
  exact ⟨_, rfl, TRow.nil _ _ _ _, fun k hk => by simp [Value.ownBlock] at hk, HB3.out⟩
 ·subst c
  rw [if_pos rfl]
  obtain ⟨n, hn⟩ : ∃ n, n = tr_n F := ⟨_, rfl⟩
  have hn1 : 63 * n ≤ F.size := by rw [hn]; unfold tr_n; omega
  have hn2 : F.size - 63 * n ≤ 63 := by rw [hn]; unfold tr_n; omega
  have hn3 : n = 0 ∨ 1 ≤ F.size - 63 * n := by rw [hn]; unfold tr_n; omega
  go_enter Tryd.func33, Tryd.ntmps33
  go_wp2_with (go_at_call 54; refine HS.out.mono ?_; rintro e w3 ⟨rfl, hb3⟩; have HB3 := Lib.hid hb3; clear hb3)
  go_loopw [4, 6] (fun v4 v6 wr => ∃ i : Nat, v4 = .string (F.extract (63 * i) F.size) ∧ i ≤ n ∧ Hid (TRow st_enc 1 9 wr v6 (tr_outs F i)) ∧ Hid (∀ k, v6.ownBlock = some k → w.heap.size ≤ k) ∧ Hid (Below w.heap.size w wr)) (fun v4 _ _ => strOf v4)
  case atStart => exact ⟨0, by rw [Nat.mul_zero, ByteArray.extract_zero_size], Nat.zero_le _, Lib.hid (TRow.nil _ _ _ _), Lib.hid (fun k hk => by simp [Value.ownBlock] at hk), HB3⟩
  case round =>
   obtain ⟨i, rfl, hi, HT, HO, HB⟩ := hrel
   have hsz := ex_size F (63 * i) (by omega)
   have hfe := ex_ex F (63 * i) 63 (by omega)
   by_cases hlt : i < n
   ·have hdr := ex_drop F (63 * i) 63 (by omega)
    have hpc : tr_piece F i = F.extract (63 * i) (63 * i + 63) ++ (⟨#[1]⟩ : ByteArray) := rfl
    have hos := tr_outs_succ F i
    have hol := tr_outs_len F i
    have hsp : (tr_piece F i).size ≤ 64 := by rw [hpc, ByteArray.size_append, ByteArray.size_extract]; show _ + 1 ≤ _; omega
    generalize tr_piece F i = PC at *
    generalize tr_outs F i = OUT at *
    obtain ⟨OUT2, hO2⟩ : ∃ x, x = tr_outs F (i + 1) := ⟨_, rfl⟩
    rw [← hO2] at hos
    have HO2 := Lib.hid hO2
    clear hO2
    rw [← hfe] at hpc
    rw [show 63 * i + 63 = 63 * (i + 1) by omega] at hdr
    generalize F.extract (63 * i) F.size = fi at *
    have c1 : (63 : Int) < (fi.size : Int) := by omega
    have c2 : 63 < fi.size := by omega
    have c3 : (63 : Int) ≤ (fi.size : Int) := by omega
    have hex : (fi.extract 0 63).size + 1 ≤ 64 := by rw [ByteArray.size_extract]; omega
    have c4 : ¬ 9223372036854775807 < min 63 fi.size + 1 := by omega
    have HOS := Lib.hid hos
    have HPC := Lib.hid hpc
    have HDR := Lib.hid hdr
    have HSZ := Lib.hid hsz
    have HOL := Lib.hid hol
    have HLE := Lib.hid (And.intro hn1 (And.intro hn2 (And.intro hlt hF)))
    clear hos hpc hdr hfe hsz hol hn hn1 hn2 hn3 hi hex hsp
    have mixed : Tryd.prog.follows Departure.mixedOrders = true := by kernel_rfl
    obtain ⟨i0, hi0, hz0⟩ := info_parts info9
    go_upto_region 7 with fail
    refine start_ (n := 9) (S := fun w' => True) (ds := []) #[false, false, false, false, false, false, false, false, false] (by kernel_rfl) rfl rfl (trivial) (fun hHeld => ?_)
    refine pure_ (i := 0) (N := some 20) (v := ?_) (a' := ?_) #[true, false, false, false, false, false, false, false, false] rfl rfl (by kernel_rfl) (fun _ _ _ h => h) (Or.inl ⟨by rfl, ?_⟩) ?_ ?_
    rotate_left
    ·intro w'
     go_simp
     with_reducible rfl
    rotate_left
    ·simp only [Act.put, List.setIfInBounds_toArray, List.set_cons_zero, List.set_cons_succ, i64_w, i32_w]
     rfl
    refine pure_ (i := 1) (N := some 21) (v := ?_) (a' := ?_) #[true, true, false, false, false, false, false, false, false] rfl rfl (by kernel_rfl) (fun _ _ _ h => h) (Or.inl ⟨by rfl, ?_⟩) ?_ ?_
    rotate_left
    ·intro w'
     go_simp
     with_reducible rfl
    rotate_left
    ·simp only [Act.put, List.setIfInBounds_toArray, List.set_cons_zero, List.set_cons_succ, i64_w, i32_w]
     rfl
    refine pure_ (i := 2) (N := some 22) (v := ?_) (a' := ?_) #[true, true, true, false, false, false, false, false, false] rfl rfl (by kernel_rfl) (fun _ _ _ h => h) (Or.inl ⟨by rfl, ?_⟩) ?_ ?_
    rotate_left
    ·intro w'
     go_simp
     with_reducible rfl
    rotate_left
    ·simp only [Act.put, List.setIfInBounds_toArray, List.set_cons_zero, List.set_cons_succ, i64_w, i32_w]
     rfl
    have hT4 : TRow st_enc 1 9 wr.drew u6 OUT := HT.out.moved (fun k hk => rfl)
    have hB4 : Below w.heap.size w wr.drew := below_drew1 HB.out
    have hs4 : wr.drew.heap.size = wr.heap.size := rfl
    generalize wr.drew = w4 at hT4 hB4 hs4 ⊢
    have HT4 := Lib.hid hT4
    have HB4 := Lib.hid hB4
    clear hT4 hB4 hHeld hs4
    refine one_ (i := 3) (N := some 23) #[true, true, true, true, false, false, false, false, false] rfl rfl (by kernel_rfl) (by decide) (fun K hK => ?_)
    refine event_step (w1 := w4.alloc (.cells #[.int .u8 1] 5)) (v := .slice (some ⟨w4.heap.size, 0, none⟩) 1 1) rfl (by go_simp) ?_
    have hb5 := below_alloc (Below.refl w4.heap.size w4) (.cells #[.int .u8 1] 5)
    have hn5 := blk_new w4 (.cells #[.int .u8 1] 5)
    refine hK.out _ _ trivial (fun hHeld => ?_)
    clear hK K
    refine norm_ (a' := ?_) ?_ ?_
    rotate_left
    ·show Act.put _ (some 23) _ = _
     simp only [Act.put, List.setIfInBounds_toArray, List.set_cons_zero, List.set_cons_succ, i64_w, i32_w]
     rfl
    generalize w4.alloc (.cells #[.int .u8 1] 5) = w5 at hb5 hn5 ⊢
    generalize w4.heap.size = q5 at hn5 ⊢
    have hcv : (convert 48 9 (.slice (some ⟨q5, 0, none⟩) 1 1)).run Tryd.prog w5 = .ok (.string (⟨#[1]⟩ : ByteArray)) w5 := run_convert_bytes_back (P := Tryd.prog) w5 48 9 5 ⟨q5, 0, none⟩ 1 [1] Tryd.underlying48 Tryd.underlying5 Tryd.underlying9 (fun j hj => by
     obtain rfl : j = 0 := by simpa using hj
     exact (blk_cell hn5 0).trans rfl)
    refine one_ (i := 4) (N := some 24) #[true, true, true, true, true, false, false, false, false] rfl rfl (by kernel_rfl) (by decide) (fun K hK => ?_)
    refine event_step (w1 := w5) (v := .string (⟨#[1]⟩ : ByteArray)) rfl (by simp [execOp, resolve, Act.eval, hcv, Result.andThen]) ?_
    refine hK.out _ _ trivial (fun hHeld => ?_)
    clear hK K
    refine norm_ (a' := ?_) ?_ ?_
    rotate_left
    ·show Act.put _ (some 24) _ = _
     simp only [Act.put, List.setIfInBounds_toArray, List.set_cons_zero, List.set_cons_succ, i64_w, i32_w]
     rfl
    refine pure_ (i := 5) (N := some 25) (v := ?_) (a' := ?_) #[true, true, true, true, true, true, false, false, false] rfl rfl (by kernel_rfl) (fun _ _ _ h => h) (Or.inl ⟨by rfl, ?_⟩) ?_ ?_
    rotate_left
    ·intro w'
     go_simp
     with_reducible rfl
    rotate_left
    ·simp only [Act.put, List.setIfInBounds_toArray, List.set_cons_zero, List.set_cons_succ, i64_w, i32_w]
     rfl
    rw [← HPC.out]
    have hT5 : TRow st_enc 1 9 w5 u6 OUT := HT4.out.moved (fun k hk => hb5.block k (HT4.out.lt k hk))
    have hB5 : Below w.heap.size w w5 := below_then HB4.out HB4.out.size hb5
    have HT5 := Lib.hid hT5
    have HB5 := Lib.hid hB5
    clear hT5 hB5 hb5 hn5 hcv hHeld
    refine one_ (i := 6) (N := some 26) #[true, true, true, true, true, true, true, false, false] rfl rfl (by kernel_rfl) (by decide) (fun K hK => ?_)
    refine event_step (w1 := w5.alloc (.cells #[.string PC] 9)) (v := .slice (some ⟨w5.heap.size, 0, none⟩) 1 1) rfl (by go_simp) ?_
    have hb6 := below_alloc (Below.refl w5.heap.size w5) (.cells #[.string PC] 9)
    have hn6 := blk_new w5 (.cells #[.string PC] 9)
    refine hK.out _ _ trivial (fun hHeld => ?_)
    clear hK K
    refine norm_ (a' := ?_) ?_ ?_
    rotate_left
    ·show Act.put _ (some 26) _ = _
     simp only [Act.put, List.setIfInBounds_toArray, List.set_cons_zero, List.set_cons_succ, i64_w, i32_w]
     rfl
    have hs6 : w5.heap.size < (w5.alloc (.cells #[.string PC] 9)).heap.size := blk_lt hn6
    generalize w5.alloc (.cells #[.string PC] 9) = w6 at hb6 hn6 hs6 ⊢
    have hT6 : TRow st_enc 1 9 w6 u6 OUT := HT5.out.moved (fun k hk => hb6.block k (HT5.out.lt k hk))
    have hB6 : Below w.heap.size w w6 := below_then HB5.out HB5.out.size hb6
    generalize w5.heap.size = q6 at hn6 hs6 ⊢
    obtain ⟨v7, w7, hrun, ht7, hgr7, hat7⟩ := run_append_trow (P := Tryd.prog) (T := 22) (ty := 22) (enc := st_enc) (sz := 1) Tryd.underlying22 hi0 hz0.1 hz0.2.1 rfl (by rw [hz0.2.2]; decide) (fun _ => rfl) (fun y u hu => by simp [st_enc] at hu; rcases hu with rfl; rfl) hT6 PC q6 (fun t u hu => by
     rw [blk_cell hn6, ← hu]
     unfold st_enc
     rw [List.getElem?_toArray]) (by rw [hz0.2.2, HOL.out]; have := HLE.out; omega)
    have HRUN := Lib.hid hrun
    rw [← HOS.out] at ht7
    have HT7 := Lib.hid ht7
    have hown7 : ∀ k, v7.ownBlock = some k → w.heap.size ≤ k := fun k hk => by
     rcases hat7 with e | e
     ·exact HO.out k (e ▸ hk)
     ·rw [e] at hk
      cases hk
      exact hB6.size
    have hB7 : Below w.heap.size w w7 := hB6.grown hgr7 hB6.size (fun k hk => HO.out k hk)
    have HO7 := Lib.hid hown7
    have HB7 := Lib.hid hB7
    clear hT6 hB6 hb6 hn6 hs6 hrun ht7 hgr7 hat7 hown7 hB7 hHeld hi0 hz0
    refine one_ (i := 7) (N := some 27) #[true, true, true, true, true, true, true, true, false] rfl rfl (by kernel_rfl) (by decide) (fun K hK => ?_)
    refine event_step (w1 := w7) (v := v7) rfl (by simp [execOp, resolve, invoke, builtin, Act.eval, HRUN.out, Result.andThen]) ?_
    refine hK.out _ _ trivial (fun hHeld => ?_)
    clear hK K
    refine norm_ (a' := ?_) ?_ ?_
    rotate_left
    ·show Act.put _ (some 27) _ = _
     simp only [Act.put, List.setIfInBounds_toArray, List.set_cons_zero, List.set_cons_succ, i64_w, i32_w]
     rfl
    refine pure_ (i := 8) (N := some 6) (v := ?_) (a' := ?_) #[true, true, true, true, true, true, true, true, true] rfl rfl (by kernel_rfl) (fun _ _ _ h => h) (Or.inl ⟨by rfl, ?_⟩) ?_ ?_
    rotate_left
    ·intro w'
     go_simp
     with_reducible rfl
    rotate_left
    ·simp only [Act.put, List.setIfInBounds_toArray, List.set_cons_zero, List.set_cons_succ, i64_w, i32_w]
     rfl
    refine done_ (by kernel_rfl) ?_
    go_wp2
    go_roundw
    case rel => exact ⟨i + 1, by rw [HDR.out], by have := HLE.out; omega, Lib.hid (HO2.out ▸ HT7.out), HO7, HB7⟩
    case measure => show (fi.extract 63 fi.size).size < fi.size; rw [ByteArray.size_extract]; omega
   ·obtain rfl : i = n := by omega
    obtain ⟨pad, hpad⟩ : ∃ pad, pad = 63 - (F.size - 63 * i) := ⟨_, rfl⟩
    have hlast : tr_last F = (F.extract (63 * i) F.size ++ tr_zeros pad) ++ (⟨#[2]⟩ : ByteArray) := by unfold tr_last; rw [← hn, ← hpad]
    have hcut : tr_cut F = tr_outs F i ++ [tr_last F] := by unfold tr_cut; rw [← hn]
    have hol := tr_outs_len F i
    generalize tr_last F = LAST at *
    generalize tr_outs F i = OUT at *
    generalize F.extract (63 * i) F.size = fi at *
    have hz := tr_zeros_size pad
    have c1 : ¬ (63 : Int) < (fi.size : Int) := by omega
    have c2 : ¬ 63 < fi.size := by omega
    have hw : wrap64 (63 - (fi.size : Int)) = (pad : Int) := by unfold wrap64; omega
    have hw2 : IntKind.i64.wrap (63 - (fi.size : Int)) = (pad : Int) := (i64_w _).trans hw
    have c3 : ¬ 9223372036854775807 < fi.size + (tr_zeros pad).size := by omega
    have c4 : ¬ 9223372036854775807 < fi.size + (tr_zeros pad).size + 1 := by omega
    have hp63 : pad ≤ 63 := by omega
    have HLAST := Lib.hid hlast
    have HCUT := Lib.hid hcut
    have HOL := Lib.hid hol
    have HLE := Lib.hid (And.intro hn1 (And.intro hp63 hF))
    clear hlast hcut hol hsz hfe hn hn1 hn2 hn3 hi hlt hz hpad hF
    have mixed : Tryd.prog.follows Departure.mixedOrders = true := by kernel_rfl
    obtain ⟨i0, hi0, hz0⟩ := info_parts info9
    go_upto_region 8 with fail
    refine start_ (n := 14) (S := fun w' => True) (ds := []) #[false, false, false, false, false, false, false, false, false, false, false, false, false, false] (by kernel_rfl) rfl rfl (trivial) (fun hHeld => ?_)
    refine pure_ (i := 0) (N := some 28) (v := ?_) (a' := ?_) #[true, false, false, false, false, false, false, false, false, false, false, false, false, false] rfl rfl (by kernel_rfl) (fun _ _ _ h => h) (Or.inl ⟨by rfl, ?_⟩) ?_ ?_
    rotate_left
    ·intro w'
     go_simp
     with_reducible rfl
    rotate_left
    ·simp only [Act.put, List.setIfInBounds_toArray, List.set_cons_zero, List.set_cons_succ, i64_w, i32_w]
     rfl
    refine pure_ (i := 1) (N := some 29) (v := ?_) (a' := ?_) #[true, true, false, false, false, false, false, false, false, false, false, false, false, false] rfl rfl (by kernel_rfl) (fun _ _ _ h => h) (Or.inl ⟨by rfl, ?_⟩) ?_ ?_
    rotate_left
    ·intro w'
     go_simp
     with_reducible rfl
    rotate_left
    ·simp only [Act.put, List.setIfInBounds_toArray, List.set_cons_zero, List.set_cons_succ, i64_w, i32_w]
     rfl
    refine pure_ (i := 2) (N := some 30) (v := ?_) (a' := ?_) #[true, true, true, false, false, false, false, false, false, false, false, false, false, false] rfl rfl (by kernel_rfl) (fun _ _ _ h => h) (Or.inl ⟨by rfl, ?_⟩) ?_ ?_
    rotate_left
    ·intro w'
     go_simp
     with_reducible rfl
    rotate_left
    ·simp only [Act.put, List.setIfInBounds_toArray, List.set_cons_zero, List.set_cons_succ, i64_w, i32_w]
     rfl
    refine pure_ (i := 3) (N := some 31) (v := ?_) (a' := ?_) #[true, true, true, true, false, false, false, false, false, false, false, false, false, false] rfl rfl (by kernel_rfl) (fun _ _ _ h => h) (Or.inl ⟨by rfl, ?_⟩) ?_ ?_
    rotate_left
    ·intro w'
     go_simp
     with_reducible rfl
    rotate_left
    ·simp only [Act.put, List.setIfInBounds_toArray, List.set_cons_zero, List.set_cons_succ, i64_w, i32_w]
     rfl
    refine pure_ (i := 4) (N := some 32) (v := ?_) (a' := ?_) #[true, true, true, true, true, false, false, false, false, false, false, false, false, false] rfl rfl (by kernel_rfl) (fun _ _ _ h => h) (Or.inl ⟨by rfl, ?_⟩) ?_ ?_
    rotate_left
    ·intro w'
     go_simp
     with_reducible rfl
    rotate_left
    ·simp only [Act.put, List.setIfInBounds_toArray, List.set_cons_zero, List.set_cons_succ, i64_w, i32_w]
     rfl
    have hT4 : TRow st_enc 1 9 wr.drew u6 OUT := HT.out.moved (fun k hk => rfl)
    have hB4 : Below w.heap.size w wr.drew := below_drew1 HB.out
    generalize wr.drew = w4 at hT4 hB4 ⊢
    have HT4 := Lib.hid hT4
    have HB4 := Lib.hid hB4
    clear hT4 hB4 hHeld
    refine join_ (σ := Nat) 4 #[true, true, true, true, true, true, true, true, true, true, false, false, false, false] (fun q => [(33, .string (tr_zeros pad)), (34, .string (fi ++ tr_zeros pad)), (35, .slice (some ⟨q, 0, none⟩) 1 1), (36, .string (⟨#[2]⟩ : ByteArray)), (37, .string LAST)]) (fun _ W => TRow st_enc 1 9 W u6 OUT ∧ Below w.heap.size w W) ?_ ?_
    rotate_left
    ·intro hcont
     refine two_ (i := 5) (j := 7) (Ni := some 33) (Nj := some 35) #[true, true, true, true, true, true, false, false, false, false, false, false, false, false] #[true, true, true, true, true, false, false, true, false, false, false, false, false, false] rfl rfl rfl rfl (by kernel_rfl) (by decide) (by decide) (fun K hK => ?_) (fun K hK => ?_)
     ·have hT_w4 := HT4.out
      have hB_w4 := HB4.out
      refine call_ 26 #[.string ⟨#[0]⟩, .int .i64 (pad : Int)] rfl rfl (by go_simp) ?_
      refine (show Calls Tryd.prog 26 #[.string ⟨#[0]⟩, .int .i64 (pad : Int)] _ (fun e w_ => e = .returned (.string (tr_zeros pad)) ∧ _) from Tryd.strings_Repeat ⟨#[0]⟩ pad _ (by have := HLE.out; omega) (by show 1 * pad ≤ _; have := HLE.out; omega)).mono ?_
      rintro e w5 ⟨rfl, hb_w5⟩
      refine ⟨_, rfl, ?_⟩
      have hT_w5 : TRow st_enc 1 9 w5 u6 OUT := hT_w4.moved (fun k hk => hb_w5.block k (hT_w4.lt k hk))
      have hB_w5 : Below w.heap.size w w5 := below_then hB_w4 hB_w4.size hb_w5
      refine hK.out _ _ trivial (fun hHeld => ?_)
      clear hK K
      refine norm_ (a' := ?_) ?_ ?_
      rotate_left
      ·show Act.put _ (some 33) _ = _
       simp only [Act.put, List.setIfInBounds_toArray, List.set_cons_zero, List.set_cons_succ, i64_w, i32_w]
       rfl
      refine pure_ (i := 6) (N := some 34) (v := ?_) (a' := ?_) #[true, true, true, true, true, true, true, false, false, false, false, false, false, false] rfl rfl (by kernel_rfl) (fun _ _ _ h => h) (Or.inl ⟨by rfl, ?_⟩) ?_ ?_
      rotate_left
      ·intro w'
       go_simp
       with_reducible rfl
      rotate_left
      ·simp only [Act.put, List.setIfInBounds_toArray, List.set_cons_zero, List.set_cons_succ, i64_w, i32_w]
       rfl
      refine one_ (i := 7) (N := some 35) #[true, true, true, true, true, true, true, true, false, false, false, false, false, false] rfl rfl (by kernel_rfl) (by decide) (fun K hK => ?_)
      refine event_step (w1 := w5.alloc (.cells #[.int .u8 2] 5)) (v := .slice (some ⟨w5.heap.size, 0, none⟩) 1 1) rfl (by go_simp) ?_
      have hb_w6 := below_alloc (Below.refl w5.heap.size w5) (.cells #[.int .u8 2] 5)
      have hn_w6 := blk_new w5 (.cells #[.int .u8 2] 5)
      have hT_w6 : TRow st_enc 1 9 (w5.alloc (.cells #[.int .u8 2] 5)) u6 OUT := hT_w5.moved (fun k hk => hb_w6.block k (hT_w5.lt k hk))
      have hB_w6 : Below w.heap.size w (w5.alloc (.cells #[.int .u8 2] 5)) := below_then hB_w5 hB_w5.size hb_w6
      refine hK.out _ _ trivial (fun hHeld => ?_)
      clear hK K
      refine norm_ (a' := ?_) ?_ ?_
      rotate_left
      ·show Act.put _ (some 35) _ = _
       simp only [Act.put, List.setIfInBounds_toArray, List.set_cons_zero, List.set_cons_succ, i64_w, i32_w]
       rfl
      generalize w5.alloc (.cells #[.int .u8 2] 5) = w6 at hb_w6 hn_w6 hT_w6 hB_w6 ⊢
      generalize w5.heap.size = q at hn_w6 ⊢
      have hc_w6 : w6.cell? ⟨q, 0, none⟩ = some (.int .u8 2) := (blk_cell hn_w6 0).trans rfl
      have hcv : (convert 48 9 (.slice (some ⟨q, 0, none⟩) 1 1)).run Tryd.prog w6 = .ok (.string (⟨#[2]⟩ : ByteArray)) w6 := run_convert_bytes_back (P := Tryd.prog) w6 48 9 5 ⟨q, 0, none⟩ 1 [2] Tryd.underlying48 Tryd.underlying5 Tryd.underlying9 (fun j hj => by
       obtain rfl : j = 0 := by simpa using hj
       exact hc_w6)
      refine one_ (i := 8) (N := some 36) #[true, true, true, true, true, true, true, true, true, false, false, false, false, false] rfl rfl (by kernel_rfl) (by decide) (fun K hK => ?_)
      refine event_step (w1 := w6) (v := .string (⟨#[2]⟩ : ByteArray)) rfl (by simp [execOp, resolve, Act.eval, hcv, Result.andThen]) ?_
      refine hK.out _ _ trivial (fun hHeld => ?_)
      clear hK K
      refine norm_ (a' := ?_) ?_ ?_
      rotate_left
      ·show Act.put _ (some 36) _ = _
       simp only [Act.put, List.setIfInBounds_toArray, List.set_cons_zero, List.set_cons_succ, i64_w, i32_w]
       rfl
      refine pure_ (i := 9) (N := some 37) (v := ?_) (a' := ?_) #[true, true, true, true, true, true, true, true, true, true, false, false, false, false] rfl rfl (by kernel_rfl) (fun _ _ _ h => h) (Or.inl ⟨by rfl, ?_⟩) ?_ ?_
      rotate_left
      ·intro w'
       go_simp
       with_reducible rfl
      rotate_left
      ·simp only [Act.put, List.setIfInBounds_toArray, List.set_cons_zero, List.set_cons_succ, i64_w, i32_w]
       rfl
      rw [← HLAST.out]
      exact hcont q _ ⟨hT_w6, hB_w6⟩
     ·have hT_w4 := HT4.out
      have hB_w4 := HB4.out
      refine event_step (w1 := w4.alloc (.cells #[.int .u8 2] 5)) (v := .slice (some ⟨w4.heap.size, 0, none⟩) 1 1) rfl (by go_simp) ?_
      have hb_w5 := below_alloc (Below.refl w4.heap.size w4) (.cells #[.int .u8 2] 5)
      have hn_w5 := blk_new w4 (.cells #[.int .u8 2] 5)
      have hT_w5 : TRow st_enc 1 9 (w4.alloc (.cells #[.int .u8 2] 5)) u6 OUT := hT_w4.moved (fun k hk => hb_w5.block k (hT_w4.lt k hk))
      have hB_w5 : Below w.heap.size w (w4.alloc (.cells #[.int .u8 2] 5)) := below_then hB_w4 hB_w4.size hb_w5
      refine hK.out _ _ trivial (fun hHeld => ?_)
      clear hK K
      refine norm_ (a' := ?_) ?_ ?_
      rotate_left
      ·show Act.put _ (some 35) _ = _
       simp only [Act.put, List.setIfInBounds_toArray, List.set_cons_zero, List.set_cons_succ, i64_w, i32_w]
       rfl
      generalize w4.alloc (.cells #[.int .u8 2] 5) = w5 at hb_w5 hn_w5 hT_w5 hB_w5 ⊢
      generalize w4.heap.size = q at hn_w5 ⊢
      have hc_w5 : w5.cell? ⟨q, 0, none⟩ = some (.int .u8 2) := (blk_cell hn_w5 0).trans rfl
      refine two_ (i := 5) (j := 8) (Ni := some 33) (Nj := some 36) #[true, true, true, true, true, true, false, true, false, false, false, false, false, false] #[true, true, true, true, true, false, false, true, true, false, false, false, false, false] rfl rfl rfl rfl (by kernel_rfl) (by decide) (by decide) (fun K hK => ?_) (fun K hK => ?_)
      ·refine call_ 26 #[.string ⟨#[0]⟩, .int .i64 (pad : Int)] rfl rfl (by go_simp) ?_
       refine (show Calls Tryd.prog 26 #[.string ⟨#[0]⟩, .int .i64 (pad : Int)] _ (fun e w_ => e = .returned (.string (tr_zeros pad)) ∧ _) from Tryd.strings_Repeat ⟨#[0]⟩ pad _ (by have := HLE.out; omega) (by show 1 * pad ≤ _; have := HLE.out; omega)).mono ?_
       rintro e w6 ⟨rfl, hb_w6⟩
       refine ⟨_, rfl, ?_⟩
       have hT_w6 : TRow st_enc 1 9 w6 u6 OUT := hT_w5.moved (fun k hk => hb_w6.block k (hT_w5.lt k hk))
       have hB_w6 : Below w.heap.size w w6 := below_then hB_w5 hB_w5.size hb_w6
       refine hK.out _ _ trivial (fun hHeld => ?_)
       have hc_w6 := pw_cell_below hb_w6 hc_w5
       clear hK K
       refine norm_ (a' := ?_) ?_ ?_
       rotate_left
       ·show Act.put _ (some 33) _ = _
        simp only [Act.put, List.setIfInBounds_toArray, List.set_cons_zero, List.set_cons_succ, i64_w, i32_w]
        rfl
       refine pure_ (i := 6) (N := some 34) (v := ?_) (a' := ?_) #[true, true, true, true, true, true, true, true, false, false, false, false, false, false] rfl rfl (by kernel_rfl) (fun _ _ _ h => h) (Or.inl ⟨by rfl, ?_⟩) ?_ ?_
       rotate_left
       ·intro w'
        go_simp
        with_reducible rfl
       rotate_left
       ·simp only [Act.put, List.setIfInBounds_toArray, List.set_cons_zero, List.set_cons_succ, i64_w, i32_w]
        rfl
       have hcv : (convert 48 9 (.slice (some ⟨q, 0, none⟩) 1 1)).run Tryd.prog w6 = .ok (.string (⟨#[2]⟩ : ByteArray)) w6 := run_convert_bytes_back (P := Tryd.prog) w6 48 9 5 ⟨q, 0, none⟩ 1 [2] Tryd.underlying48 Tryd.underlying5 Tryd.underlying9 (fun j hj => by
        obtain rfl : j = 0 := by simpa using hj
        exact hc_w6)
       refine one_ (i := 8) (N := some 36) #[true, true, true, true, true, true, true, true, true, false, false, false, false, false] rfl rfl (by kernel_rfl) (by decide) (fun K hK => ?_)
       refine event_step (w1 := w6) (v := .string (⟨#[2]⟩ : ByteArray)) rfl (by simp [execOp, resolve, Act.eval, hcv, Result.andThen]) ?_
       refine hK.out _ _ trivial (fun hHeld => ?_)
       clear hK K
       refine norm_ (a' := ?_) ?_ ?_
       rotate_left
       ·show Act.put _ (some 36) _ = _
        simp only [Act.put, List.setIfInBounds_toArray, List.set_cons_zero, List.set_cons_succ, i64_w, i32_w]
        rfl
       refine pure_ (i := 9) (N := some 37) (v := ?_) (a' := ?_) #[true, true, true, true, true, true, true, true, true, true, false, false, false, false] rfl rfl (by kernel_rfl) (fun _ _ _ h => h) (Or.inl ⟨by rfl, ?_⟩) ?_ ?_
       rotate_left
       ·intro w'
        go_simp
        with_reducible rfl
       rotate_left
       ·simp only [Act.put, List.setIfInBounds_toArray, List.set_cons_zero, List.set_cons_succ, i64_w, i32_w]
        rfl
       rw [← HLAST.out]
       exact hcont q _ ⟨hT_w6, hB_w6⟩
      ·have hcv : (convert 48 9 (.slice (some ⟨q, 0, none⟩) 1 1)).run Tryd.prog w5 = .ok (.string (⟨#[2]⟩ : ByteArray)) w5 := run_convert_bytes_back (P := Tryd.prog) w5 48 9 5 ⟨q, 0, none⟩ 1 [2] Tryd.underlying48 Tryd.underlying5 Tryd.underlying9 (fun j hj => by
        obtain rfl : j = 0 := by simpa using hj
        exact hc_w5)
       refine event_step (w1 := w5) (v := .string (⟨#[2]⟩ : ByteArray)) rfl (by simp [execOp, resolve, Act.eval, hcv, Result.andThen]) ?_
       refine hK.out _ _ trivial (fun hHeld => ?_)
       clear hK K
       refine norm_ (a' := ?_) ?_ ?_
       rotate_left
       ·show Act.put _ (some 36) _ = _
        simp only [Act.put, List.setIfInBounds_toArray, List.set_cons_zero, List.set_cons_succ, i64_w, i32_w]
        rfl
       refine one_ (i := 5) (N := some 33) #[true, true, true, true, true, true, false, true, true, false, false, false, false, false] rfl rfl (by kernel_rfl) (by decide) (fun K hK => ?_)
       refine call_ 26 #[.string ⟨#[0]⟩, .int .i64 (pad : Int)] rfl rfl (by go_simp) ?_
       refine (show Calls Tryd.prog 26 #[.string ⟨#[0]⟩, .int .i64 (pad : Int)] _ (fun e w_ => e = .returned (.string (tr_zeros pad)) ∧ _) from Tryd.strings_Repeat ⟨#[0]⟩ pad _ (by have := HLE.out; omega) (by show 1 * pad ≤ _; have := HLE.out; omega)).mono ?_
       rintro e w6 ⟨rfl, hb_w6⟩
       refine ⟨_, rfl, ?_⟩
       have hT_w6 : TRow st_enc 1 9 w6 u6 OUT := hT_w5.moved (fun k hk => hb_w6.block k (hT_w5.lt k hk))
       have hB_w6 : Below w.heap.size w w6 := below_then hB_w5 hB_w5.size hb_w6
       refine hK.out _ _ trivial (fun hHeld => ?_)
       clear hK K
       refine norm_ (a' := ?_) ?_ ?_
       rotate_left
       ·show Act.put _ (some 33) _ = _
        simp only [Act.put, List.setIfInBounds_toArray, List.set_cons_zero, List.set_cons_succ, i64_w, i32_w]
        rfl
       refine pure_ (i := 6) (N := some 34) (v := ?_) (a' := ?_) #[true, true, true, true, true, true, true, true, true, false, false, false, false, false] rfl rfl (by kernel_rfl) (fun _ _ _ h => h) (Or.inl ⟨by rfl, ?_⟩) ?_ ?_
       rotate_left
       ·intro w'
        go_simp
        with_reducible rfl
       rotate_left
       ·simp only [Act.put, List.setIfInBounds_toArray, List.set_cons_zero, List.set_cons_succ, i64_w, i32_w]
        rfl
       refine pure_ (i := 9) (N := some 37) (v := ?_) (a' := ?_) #[true, true, true, true, true, true, true, true, true, true, false, false, false, false] rfl rfl (by kernel_rfl) (fun _ _ _ h => h) (Or.inl ⟨by rfl, ?_⟩) ?_ ?_
       rotate_left
       ·intro w'
        go_simp
        with_reducible rfl
       rotate_left
       ·simp only [Act.put, List.setIfInBounds_toArray, List.set_cons_zero, List.set_cons_succ, i64_w, i32_w]
        rfl
       rw [← HLAST.out]
       exact hcont q _ ⟨hT_w6, hB_w6⟩
    ·rintro q W ⟨hT5, hB5⟩
     refine norm_ (a' := ?_) ?_ ?_
     rotate_left
     ·simp only [putAll, Act.put, List.setIfInBounds_toArray, List.set_cons_zero, List.set_cons_succ, i64_w, i32_w]
      rfl
     refine one_ (i := 10) (N := some 38) #[true, true, true, true, true, true, true, true, true, true, true, false, false, false] rfl rfl (by kernel_rfl) (by decide) (fun K hK => ?_)
     refine event_step (w1 := W.alloc (.cells #[.string LAST] 9)) (v := .slice (some ⟨W.heap.size, 0, none⟩) 1 1) rfl (by go_simp) ?_
     have hb6 := below_alloc (Below.refl W.heap.size W) (.cells #[.string LAST] 9)
     have hn6 := blk_new W (.cells #[.string LAST] 9)
     refine hK.out _ _ trivial (fun hHeld => ?_)
     clear hK K
     refine norm_ (a' := ?_) ?_ ?_
     rotate_left
     ·show Act.put _ (some 38) _ = _
      simp only [Act.put, List.setIfInBounds_toArray, List.set_cons_zero, List.set_cons_succ, i64_w, i32_w]
      rfl
     have hs6 : W.heap.size < (W.alloc (.cells #[.string LAST] 9)).heap.size := blk_lt hn6
     generalize W.alloc (.cells #[.string LAST] 9) = w6 at hb6 hn6 hs6 ⊢
     have hT6 : TRow st_enc 1 9 w6 u6 OUT := hT5.moved (fun k hk => hb6.block k (hT5.lt k hk))
     have hB6 : Below w.heap.size w w6 := below_then hB5 hB5.size hb6
     generalize W.heap.size = q6 at hn6 hs6 ⊢
     obtain ⟨v7, w7, hrun, ht7, hgr7, hat7⟩ := run_append_trow (P := Tryd.prog) (T := 22) (ty := 22) (enc := st_enc) (sz := 1) Tryd.underlying22 hi0 hz0.1 hz0.2.1 rfl (by rw [hz0.2.2]; decide) (fun _ => rfl) (fun y u hu => by simp [st_enc] at hu; rcases hu with rfl; rfl) hT6 LAST q6 (fun t u hu => by
      rw [blk_cell hn6, ← hu]
      unfold st_enc
      rw [List.getElem?_toArray]) (by rw [hz0.2.2, HOL.out]; have := HLE.out; omega)
     have HRUN := Lib.hid hrun
     rw [← HCUT.out] at ht7
     have HT7 := Lib.hid ht7
     have hown7 : ∀ k, v7.ownBlock = some k → w.heap.size ≤ k := fun k hk => by
      rcases hat7 with e | e
      ·exact HO.out k (e ▸ hk)
      ·rw [e] at hk
       cases hk
       exact hB6.size
     have hB7 : Below w.heap.size w w7 := hB6.grown hgr7 hB6.size (fun k hk => HO.out k hk)
     have HO7 := Lib.hid hown7
     have HB7 := Lib.hid hB7
     clear hT6 hB6 hb6 hn6 hs6 hrun ht7 hgr7 hat7 hown7 hB7 hHeld hi0 hz0 hT5 hB5
     refine one_ (i := 11) (N := some 39) #[true, true, true, true, true, true, true, true, true, true, true, true, false, false] rfl rfl (by kernel_rfl) (by decide) (fun K hK => ?_)
     refine event_step (w1 := w7) (v := v7) rfl (by simp [execOp, resolve, invoke, builtin, Act.eval, HRUN.out, Result.andThen]) ?_
     refine hK.out _ _ trivial (fun hHeld => ?_)
     clear hK K
     refine norm_ (a' := ?_) ?_ ?_
     rotate_left
     ·show Act.put _ (some 39) _ = _
      simp only [Act.put, List.setIfInBounds_toArray, List.set_cons_zero, List.set_cons_succ, i64_w, i32_w]
      rfl
     refine pure_ (i := 12) (N := some 2) (v := ?_) (a' := ?_) #[true, true, true, true, true, true, true, true, true, true, true, true, true, false] rfl rfl (by kernel_rfl) (fun _ _ _ h => h) (Or.inl ⟨by rfl, ?_⟩) ?_ ?_
     rotate_left
     ·intro w'
      go_simp
      with_reducible rfl
     rotate_left
     ·simp only [Act.put, List.setIfInBounds_toArray, List.set_cons_zero, List.set_cons_succ, i64_w, i32_w]
      rfl
     refine pure_ (i := 13) (N := some 3) (v := ?_) (a' := ?_) #[true, true, true, true, true, true, true, true, true, true, true, true, true, true] rfl rfl (by kernel_rfl) (fun _ _ _ h => h) (Or.inl ⟨by rfl, ?_⟩) ?_ ?_
     rotate_left
     ·intro w'
      go_simp
      with_reducible rfl
     rotate_left
     ·simp only [Act.put, List.setIfInBounds_toArray, List.set_cons_zero, List.set_cons_succ, i64_w, i32_w]
      rfl
     refine done_ (by kernel_rfl) ?_
     go_wp2
     go_ret2
     exact ⟨_, rfl, HT7.out, HO7.out, HB7.out⟩
def tr_in (n : Nat) (f m : Int) : Prop := 0 ≤ m ∧ 0 ≤ f ∧ f ≤ (n : Int) ∧ m ≤ (n : Int) - f
instance (n : Nat) (f m : Int) : Decidable (tr_in n f m) := by unfold tr_in; infer_instance
theorem blk_cells3 {w : World} {g : Nat} {v0 v1 v2 : Value} {t : TypeId} (h : w.heap[g]? = some (.cells #[v0, v1, v2] t (0, 0))) : w.cell? ⟨g, 0, none⟩ = some v0 ∧ w.cell? ⟨g, 1, none⟩ = some v1 ∧ w.cell? ⟨g, 2, none⟩ = some v2 := by
 have a := blk_cell h 0
 have b := blk_cell h 1
 have c := blk_cell h 2
 simp only [List.getElem?_toArray, List.getElem?_cons_zero, List.getElem?_cons_succ] at a b c
 exact ⟨a, b, c⟩
set_option maxHeartbeats 1000000 in
set_option maxRecDepth 100000 in
theorem tr_In_yes (g : Nat) (D : Dv) (f m : Int) (w : World) (hD : DR w g D) (hb : D.b.length ≤ 4096) (h : tr_in D.b.length f m) :
  Calls Tryd.prog 34 #[.pointer (some ⟨g, 0, none⟩), .int .i64 f, .int .i64 m] w fun e w' => e = .returned (.tuple #[.agg #[.pointer (some ⟨g, 0, none⟩), .int .i64 f, .int .i64 m], .int .i64 0]) ∧ Below w.heap.size w w' := by
 obtain ⟨h1, h2, h3, h4⟩ := h
 have hn := blk_new w (.cells #[.pointer none, .int .i64 0, .int .i64 0] 51)
 have hbl := below_alloc (Below.refl w.heap.size w) (.cells #[.pointer none, .int .i64 0, .int .i64 0] 51)
 obtain ⟨A1, c1, A2, c2, hrow, _⟩ := hD.below hbl
 obtain ⟨g0, g1, g2, g3⟩ := blk_cells4 hrow
 have HN := Lib.hid hn
 have HB := Lib.hid hbl
 have q1 : decide (m < 0) = false := decide_eq_false (by omega)
 have q2 : decide (f < 0) = false := decide_eq_false (by omega)
 have q3 : decide ((D.b.length : Int) < f) = false := decide_eq_false (by omega)
 have hw : wrap64 ((D.b.length : Int) - f) = (D.b.length : Int) - f := by unfold wrap64; omega
 have q4 : decide ((D.b.length : Int) - f < m) = false := decide_eq_false (by omega)
 have r1 : ¬ m < 0 := by omega
 have r2 : ¬ f < 0 := by omega
 have r3 : ¬ (D.b.length : Int) < f := by omega
 have r4 : ¬ (D.b.length : Int) - f < m := by omega
 clear hrow hn hbl hD g1 g2 g3 h1 h2 h3 h4
 go_enter Tryd.func34, Tryd.ntmps34
 go_wp2_with (refine keys_store_row rfl 51 (.tmp 6) (.tmp 40) rfl (w.heap.size) _ #[.pointer (some ⟨g, 0, none⟩), .int .i64 f, .int .i64 m] 51 rfl rfl HN.out rfl (by kernel_rfl) (by intro v hv; simp at hv; rcases hv with rfl | rfl | rfl <;> rfl) ?_)
 have o1 := setRow_heap _ (w.heap.size) _ #[.pointer (some ⟨g, 0, none⟩), .int .i64 f, .int .i64 m] 51 _ HN.out
 obtain ⟨x0, x1, x2⟩ := blk_cells3 o1
 refine bodyPost_ret (v := .tuple #[.agg #[.pointer (some ⟨g, 0, none⟩), .int .i64 f, .int .i64 m], .int .i64 0]) (by simp [results, Tryd.results34, go_sem, x0, x1, x2]) rfl ⟨rfl, keys_below_setRow HB.out (Nat.le_refl _) _⟩
set_option maxHeartbeats 1000000 in
set_option maxRecDepth 100000 in
theorem tr_In_no (g : Nat) (D : Dv) (f m : Int) (w : World) (hD : DR w g D) (hb : D.b.length ≤ 4096) (h : ¬ tr_in D.b.length f m) :
  Calls Tryd.prog 34 #[.pointer (some ⟨g, 0, none⟩), .int .i64 f, .int .i64 m] w fun e w' => e = .returned (.tuple #[.agg #[.pointer none, .int .i64 0, .int .i64 0], .int .i64 1]) ∧ Below w.heap.size w w' := by
 have hn := blk_new w (.cells #[.pointer none, .int .i64 0, .int .i64 0] 51)
 have hbl := below_alloc (Below.refl w.heap.size w) (.cells #[.pointer none, .int .i64 0, .int .i64 0] 51)
 obtain ⟨A1, c1, A2, c2, hrow, _⟩ := hD.below hbl
 obtain ⟨g0, g1, g2, g3⟩ := blk_cells4 hrow
 have HN := Lib.hid hn
 have HB := Lib.hid hbl
 have o1 := setRow_heap _ (w.heap.size) _ #[.pointer none, .int .i64 0, .int .i64 0] 51 _ hn
 obtain ⟨x0, x1, x2⟩ := blk_cells3 o1
 have HX := Lib.hid (And.intro x0 (And.intro x1 x2))
 clear hrow hn hbl hD g1 g2 g3 o1 x0 x1 x2
 unfold tr_in at h
 by_cases r1 : m < 0
 ·have q1 : decide (m < 0) = true := decide_eq_true r1
  go_enter Tryd.func34, Tryd.ntmps34
  go_wp2_with (refine keys_store_row rfl 51 (.tmp 6) (.tmp 36) rfl (w.heap.size) _ #[.pointer none, .int .i64 0, .int .i64 0] 51 rfl rfl HN.out rfl (by kernel_rfl) (by intro v hv; simp at hv; rcases hv with rfl | rfl <;> rfl) ?_)
  obtain ⟨x0, x1, x2⟩ := HX.out
  refine bodyPost_ret (v := .tuple #[.agg #[.pointer none, .int .i64 0, .int .i64 0], .int .i64 1]) (by simp [results, Tryd.results34, go_sem, x0, x1, x2]) rfl ⟨rfl, keys_below_setRow HB.out (Nat.le_refl _) _⟩
 have q1 : decide (m < 0) = false := decide_eq_false r1
 by_cases r2 : f < 0
 ·have q2 : decide (f < 0) = true := decide_eq_true r2
  go_enter Tryd.func34, Tryd.ntmps34
  go_wp2_with (refine keys_store_row rfl 51 (.tmp 6) (.tmp 36) rfl (w.heap.size) _ #[.pointer none, .int .i64 0, .int .i64 0] 51 rfl rfl HN.out rfl (by kernel_rfl) (by intro v hv; simp at hv; rcases hv with rfl | rfl <;> rfl) ?_)
  obtain ⟨x0, x1, x2⟩ := HX.out
  refine bodyPost_ret (v := .tuple #[.agg #[.pointer none, .int .i64 0, .int .i64 0], .int .i64 1]) (by simp [results, Tryd.results34, go_sem, x0, x1, x2]) rfl ⟨rfl, keys_below_setRow HB.out (Nat.le_refl _) _⟩
 have q2 : decide (f < 0) = false := decide_eq_false r2
 by_cases r3 : (D.b.length : Int) < f
 ·have q3 : decide ((D.b.length : Int) < f) = true := decide_eq_true r3
  go_enter Tryd.func34, Tryd.ntmps34
  go_wp2_with (refine keys_store_row rfl 51 (.tmp 6) (.tmp 36) rfl (w.heap.size) _ #[.pointer none, .int .i64 0, .int .i64 0] 51 rfl rfl HN.out rfl (by kernel_rfl) (by intro v hv; simp at hv; rcases hv with rfl | rfl <;> rfl) ?_)
  obtain ⟨x0, x1, x2⟩ := HX.out
  refine bodyPost_ret (v := .tuple #[.agg #[.pointer none, .int .i64 0, .int .i64 0], .int .i64 1]) (by simp [results, Tryd.results34, go_sem, x0, x1, x2]) rfl ⟨rfl, keys_below_setRow HB.out (Nat.le_refl _) _⟩
 have q3 : decide ((D.b.length : Int) < f) = false := decide_eq_false r3
 have hw : wrap64 ((D.b.length : Int) - f) = (D.b.length : Int) - f := by unfold wrap64; omega
 have r4 : (D.b.length : Int) - f < m := by omega
 have q4 : decide ((D.b.length : Int) - f < m) = true := decide_eq_true r4
 go_enter Tryd.func34, Tryd.ntmps34
 go_wp2_with (refine keys_store_row rfl 51 (.tmp 6) (.tmp 36) rfl (w.heap.size) _ #[.pointer none, .int .i64 0, .int .i64 0] 51 rfl rfl HN.out rfl (by kernel_rfl) (by intro v hv; simp at hv; rcases hv with rfl | rfl <;> rfl) ?_)
 obtain ⟨x0, x1, x2⟩ := HX.out
 refine bodyPost_ret (v := .tuple #[.agg #[.pointer none, .int .i64 0, .int .i64 0], .int .i64 1]) (by simp [results, Tryd.results34, go_sem, x0, x1, x2]) rfl ⟨rfl, keys_below_setRow HB.out (Nat.le_refl _) _⟩
set_option maxHeartbeats 1000000 in
set_option maxRecDepth 100000 in
theorem tr_at (g : Nat) (D : Dv) (f m i : Int) (w : World) (hD : DR w g D) (hb : D.b.length ≤ 4096) (h : tr_in D.b.length f m) (h0 : 0 ≤ i) (h1 : i < m) :
  Calls Tryd.prog 35 #[.agg #[.pointer (some ⟨g, 0, none⟩), .int .i64 f, .int .i64 m], .int .i64 i] w fun e w' => e = .returned (.string (dv_has D (f + i))) ∧ Below w.heap.size w w' := by
 obtain ⟨a1, a2, a3, a4⟩ := h
 have hn := blk_new w (.cells #[.pointer (some ⟨g, 0, none⟩), .int .i64 f, .int .i64 m] 51)
 have hbl := below_alloc (Below.refl w.heap.size w) (.cells #[.pointer (some ⟨g, 0, none⟩), .int .i64 f, .int .i64 m] 51)
 have HR := dev_read g D (f + i) _ (hD.below hbl)
 have ht : dv_there D (f + i) = true := by unfold dv_there; simp; omega
 unfold dv_read at HR
 rw [if_pos ht] at HR
 have hw : wrap64 (f + i) = f + i := by unfold wrap64; omega
 have HB := Lib.hid hbl
 have HRH := Lib.hid HR
 obtain ⟨x0, x1, x2⟩ := blk_cells3 hn
 generalize dv_has D (f + i) = s at *
 clear hbl hD HR hn x2 a1 a2 a3 a4 ht
 go_enter Tryd.func35, Tryd.ntmps35
 go_wp2_with (go_at_call 25; refine HRH.out.mono ?_; rintro e w3 ⟨rfl, hb3⟩; have HB3 := Lib.hid (below_then HB.out HB.out.size hb3); clear hb3)
 go_ret
 exact ⟨rfl, HB3.out⟩

def strings_trimLeftByte.l0 : Nat → ByteArray → Int → Option (ByteArray)
 | 0, _, _ => none
 | k + 1, x0, x1 => if (x0.size : Int) > 0 then (if 0 < (x0.size : Int) then (if (bt x0 0) = x1 then (if 1 ≤ (x0.size : Int) then (strings_trimLeftByte.l0 k (x0.extract 1 x0.size) x1) else (none)) else (some x0)) else (none)) else (some x0)
def strings_trimLeftByte.f (k : Nat) (a0 : ByteArray) (a1 : Int) : Option (ByteArray) := strings_trimLeftByte.l0 k a0 a1
theorem strings_trimLeftByte.mono_l : ∀ k, (∀ y0 y1, LeO (strings_trimLeftByte.l0 k y0 y1) (strings_trimLeftByte.l0 (k + 1) y0 y1))
 | 0 => fun _ _ r h => by simp [strings_trimLeftByte.l0] at h
 | k + 1 => by
  have ih0 := strings_trimLeftByte.mono_l k
  ·intro y0 y1
   unfold strings_trimLeftByte.l0
   repeat' first
   | (with_reducible exact ih0 _ _)
   | (with_reducible exact LeO.refl _)
   | (with_reducible exact LeO.none _)
   | (with_reducible refine LeO.ite ?_ ?_)
   | (with_reducible refine LeO.bind ?_ (fun _ => ?_))
   | exact ih0 _ _
   | exact LeO.none _
   | refine LeO.ite ?_ ?_
   | refine LeO.bind ?_ (fun _ => ?_)
theorem strings_trimLeftByte.mono : ∀ a0 a1 k, LeO (strings_trimLeftByte.f k a0 a1) (strings_trimLeftByte.f (k + 1) a0 a1) := by
 intro a0 a1 k
 have ih0 := strings_trimLeftByte.mono_l k
 unfold strings_trimLeftByte.f
 repeat' first
   | (with_reducible exact ih0 _ _)
   | (with_reducible exact LeO.refl _)
   | (with_reducible exact LeO.none _)
   | (with_reducible refine LeO.ite ?_ ?_)
   | (with_reducible refine LeO.bind ?_ (fun _ => ?_))
   | exact ih0 _ _
   | exact LeO.none _
   | refine LeO.ite ?_ ?_
   | refine LeO.bind ?_ (fun _ => ?_)
set_option maxHeartbeats 8000000 in
set_option maxRecDepth 100000 in
theorem strings_trimLeftByte.calls (k : Nat) (a0 : ByteArray) (a1 : Int) (r : ByteArray) (w : World) (h : strings_trimLeftByte.f k a0 a1 = some r) :
  Calls Tryd.prog 68 #[.string a0, .int .u8 a1] w fun e w' => e = .returned (.string r) ∧ Drawn0 w w' := by
 have H : (strings_trimLeftByte.l0 k a0 a1) = some r := h
 clear h
 have H' := Aside0.mk H
 clear H
 go_enter Tryd.func68, Tryd.ntmps68
 go_wp2
 go_loopg [0] k (fun kq v0 w' => ∃ (x0_1 : ByteArray), v0 = .string x0_1 ∧ Aside0 (strings_trimLeftByte.l0 kq x0_1 a1 = some r) ∧ Aside0 (kq ≤ k) ∧ Drawn0 w w')
 case atStart => exact ⟨(a0), (by first | rfl | (simp; done) | (simp [*]; done)), H', ⟨Nat.le_refl _⟩, by repeat (first | exact Drawn0.refl _ | apply Drawn0.step)⟩
 case round =>
  clear H'
  try clear p2
  obtain ⟨x0_1, rfl, HA, HK1, ⟨m1, rfl⟩⟩ := hrel
  cases gk with
  | zero => exact absurd HA.out (by simp [strings_trimLeftByte.l0])
  | succ k1 =>
   have H := HA.out
   clear HA
   simp only [strings_trimLeftByte.l0] at H
   by_cases c3 : (x0_1.size : Int) > 0
   ·rw [if_pos c3] at H
    have c3b0 : decide (0 < (x0_1.size : Int)) = true := decide_eq_true c3
    have c3b1 : decide (0 < x0_1.size) = true := decide_eq_true (by omega)
    clear c3
    by_cases c4 : 0 < (x0_1.size : Int)
    ·rw [if_pos c4] at H
     have c4b0 : decide (0 < (x0_1.size : Int)) = true := decide_eq_true c4
     have c4b1 : decide (0 < x0_1.size) = true := decide_eq_true (by omega)
     clear c4
     by_cases c6 : (bt x0_1 0) = a1
     ·rw [if_pos c6] at H
      have c6b0 : ((bt x0_1 0) == a1) = true := beq_iff_eq.mpr c6
      have c6b1 : ((bt x0_1 0) != a1) = false := bne_eq_false_iff_eq.mpr c6
      clear c6
      by_cases c7 : 1 ≤ (x0_1.size : Int)
      ·rw [if_pos c7] at H
       have c7b0 := eq_true c7
       have c7b1 : decide (1 ≤ (x0_1.size : Int)) = true := decide_eq_true c7
       clear c7
       have H' := Aside0.mk H
       clear H
       have p5 : 0 ≤ (0 : Int) := (by omega)
       have q5 : 0 < x0_1.size := (by have : (0 : Int) < (x0_1.size : Int) := of_decide_eq_true (by first | (with_reducible assumption) | assumption); omega)
       have hx5 : ∀ h : 0 < x0_1.size, ((x0_1[0]'h).toNat : Int) = bt x0_1 0 := bt_at x0_1 0
       clear p5
       have qi5 : (0 < (x0_1.size : Int)) = True := eq_true (of_decide_eq_true (by first | (with_reducible assumption) | assumption))
       replace q5 := eq_true q5
       go_wp2
       go_roundg k1
       case measure => have := HK1.out; omega
       case rel => exact ⟨(x0_1.extract 1 x0_1.size), (by first | rfl | (simp; done) | (simp [*]; done)), H', ⟨by have := HK1.out; omega⟩, by repeat (first | exact Drawn0.refl _ | apply Drawn0.step)⟩
      ·rw [if_neg c7] at H
       exact absurd H (by simp)
     ·rw [if_neg c6] at H
      have c6b0 : ((bt x0_1 0) == a1) = false := beq_eq_false_iff_ne.mpr c6
      have c6b1 : ((bt x0_1 0) != a1) = true := bne_iff_ne.mpr c6
      obtain rfl := Option.some.inj H
      have p5 : 0 ≤ (0 : Int) := (by omega)
      have q5 : 0 < x0_1.size := (by have : (0 : Int) < (x0_1.size : Int) := of_decide_eq_true (by first | (with_reducible assumption) | assumption); omega)
      have hx5 : ∀ h : 0 < x0_1.size, ((x0_1[0]'h).toNat : Int) = bt x0_1 0 := bt_at x0_1 0
      clear p5
      have qi5 : (0 < (x0_1.size : Int)) = True := eq_true (of_decide_eq_true (by first | (with_reducible assumption) | assumption))
      replace q5 := eq_true q5
      go_wp2
      go_ret
      exact ⟨by first | rfl | (simp; done) | (simp [*]; done), by repeat (first | exact Drawn0.refl _ | apply Drawn0.step)⟩
    ·rw [if_neg c4] at H
     exact absurd H (by simp)
   ·rw [if_neg c3] at H
    have c3b0 : decide (0 < (x0_1.size : Int)) = false := decide_eq_false c3
    have c3b1 : decide (0 < x0_1.size) = false := decide_eq_false (by omega)
    clear c3
    obtain rfl := Option.some.inj H
    go_wp2
    go_ret
    exact ⟨by first | rfl | (simp; done) | (simp [*]; done), by repeat (first | exact Drawn0.refl _ | apply Drawn0.step)⟩

def strings_trimRightByte.l0 : Nat → ByteArray → Int → Option (ByteArray)
 | 0, _, _ => none
 | k + 1, x0, x1 => if (x0.size : Int) > 0 then (if 0 ≤ (wrap64 ((x0.size : Int) - 1)) then (if (wrap64 ((x0.size : Int) - 1)) < (x0.size : Int) then (if (bt x0 (wrap64 ((x0.size : Int) - 1))) = x1 then (if (wrap64 ((x0.size : Int) - 1)) ≤ (x0.size : Int) then (strings_trimRightByte.l0 k (x0.extract 0 ((wrap64 ((x0.size : Int) - 1)) : Int).toNat) x1) else (none)) else (some x0)) else (none)) else (none)) else (some x0)
def strings_trimRightByte.f (k : Nat) (a0 : ByteArray) (a1 : Int) : Option (ByteArray) := strings_trimRightByte.l0 k a0 a1
theorem strings_trimRightByte.mono_l : ∀ k, (∀ y0 y1, LeO (strings_trimRightByte.l0 k y0 y1) (strings_trimRightByte.l0 (k + 1) y0 y1))
 | 0 => fun _ _ r h => by simp [strings_trimRightByte.l0] at h
 | k + 1 => by
  have ih0 := strings_trimRightByte.mono_l k
  ·intro y0 y1
   unfold strings_trimRightByte.l0
   repeat' first
   | (with_reducible exact ih0 _ _)
   | (with_reducible exact LeO.refl _)
   | (with_reducible exact LeO.none _)
   | (with_reducible refine LeO.ite ?_ ?_)
   | (with_reducible refine LeO.bind ?_ (fun _ => ?_))
   | exact ih0 _ _
   | exact LeO.none _
   | refine LeO.ite ?_ ?_
   | refine LeO.bind ?_ (fun _ => ?_)
theorem strings_trimRightByte.mono : ∀ a0 a1 k, LeO (strings_trimRightByte.f k a0 a1) (strings_trimRightByte.f (k + 1) a0 a1) := by
 intro a0 a1 k
 have ih0 := strings_trimRightByte.mono_l k
 unfold strings_trimRightByte.f
 repeat' first
   | (with_reducible exact ih0 _ _)
   | (with_reducible exact LeO.refl _)
   | (with_reducible exact LeO.none _)
   | (with_reducible refine LeO.ite ?_ ?_)
   | (with_reducible refine LeO.bind ?_ (fun _ => ?_))
   | exact ih0 _ _
   | exact LeO.none _
   | refine LeO.ite ?_ ?_
   | refine LeO.bind ?_ (fun _ => ?_)
set_option maxHeartbeats 8000000 in
set_option maxRecDepth 100000 in
theorem strings_trimRightByte.calls (k : Nat) (a0 : ByteArray) (a1 : Int) (r : ByteArray) (w : World) (h : strings_trimRightByte.f k a0 a1 = some r) :
  Calls Tryd.prog 69 #[.string a0, .int .u8 a1] w fun e w' => e = .returned (.string r) ∧ Drawn0 w w' := by
 have H : (strings_trimRightByte.l0 k a0 a1) = some r := h
 clear h
 have H' := Aside0.mk H
 clear H
 go_enter Tryd.func69, Tryd.ntmps69
 go_wp2
 go_loopg [0] k (fun kq v0 w' => ∃ (x0_1 : ByteArray), v0 = .string x0_1 ∧ Aside0 (strings_trimRightByte.l0 kq x0_1 a1 = some r) ∧ Aside0 (kq ≤ k) ∧ Drawn0 w w')
 case atStart => exact ⟨(a0), (by first | rfl | (simp; done) | (simp [*]; done)), H', ⟨Nat.le_refl _⟩, by repeat (first | exact Drawn0.refl _ | apply Drawn0.step)⟩
 case round =>
  clear H'
  try clear p2
  obtain ⟨x0_1, rfl, HA, HK1, ⟨m1, rfl⟩⟩ := hrel
  cases gk with
  | zero => exact absurd HA.out (by simp [strings_trimRightByte.l0])
  | succ k1 =>
   have H := HA.out
   clear HA
   simp only [strings_trimRightByte.l0] at H
   by_cases c3 : (x0_1.size : Int) > 0
   ·rw [if_pos c3] at H
    have c3b0 : decide (0 < (x0_1.size : Int)) = true := decide_eq_true c3
    have c3b1 : decide (0 < x0_1.size) = true := decide_eq_true (by omega)
    clear c3
    obtain ⟨ji4, hji4⟩ : ∃ j_ : Int, (wrap64 ((x0_1.size : Int) - 1)) = j_ := ⟨_, rfl⟩
    replace H : (if 0 ≤ (ji4) then (if (ji4) < (x0_1.size : Int) then (if (bt x0_1 (ji4)) = a1 then (if (ji4) ≤ (x0_1.size : Int) then (strings_trimRightByte.l0 k1 (x0_1.extract 0 ((ji4) : Int).toNat) a1) else (none)) else (some x0_1)) else (none)) else (none)) = some r := by first | (rw [hji4] at H; exact H) | (simp only [hji4] at H ⊢; exact H)
    have hji4w : (IntKind.i64.wrap ((x0_1.size : Int) - 1)) = ji4 := (i64_w _).trans hji4
    by_cases c5 : 0 ≤ (ji4)
    ·rw [if_pos c5] at H
     have c5b0 : decide (0 ≤ (ji4)) = true := decide_eq_true c5
     clear c5
     by_cases c6 : (ji4) < (x0_1.size : Int)
     ·rw [if_pos c6] at H
      have c6b0 : decide ((ji4) < (x0_1.size : Int)) = true := decide_eq_true c6
      clear c6
      by_cases c8 : (bt x0_1 (ji4)) = a1
      ·rw [if_pos c8] at H
       have c8b0 : ((bt x0_1 (ji4)) == a1) = true := beq_iff_eq.mpr c8
       have c8b1 : ((bt x0_1 (ji4)) != a1) = false := bne_eq_false_iff_eq.mpr c8
       clear c8
       have c9b0 := eq_true (of_decide_eq_true (by first | (with_reducible assumption) | assumption) : 0 ≤ (ji4))
       by_cases c10 : (ji4) ≤ (x0_1.size : Int)
       ·rw [if_pos c10] at H
        have c10b0 := eq_true c10
        have c10b1 : decide ((ji4) ≤ (x0_1.size : Int)) = true := decide_eq_true c10
        clear c10
        have H' := Aside0.mk H
        clear H
        have p7 : 0 ≤ ((ji4) : Int) := of_decide_eq_true (by first | (with_reducible assumption) | assumption)
        have q7 : (ji4) < (x0_1.size : Int) := of_decide_eq_true (by first | (with_reducible assumption) | assumption)
        have hx7 := bt_at x0_1 (ji4)
        replace p7 := eq_true p7
        replace q7 := eq_true q7
        go_wp2
        go_roundg k1
        case measure => have := HK1.out; omega
        case rel => exact ⟨(x0_1.extract 0 ((ji4) : Int).toNat), (by first | rfl | (simp; done) | (simp only [← hji4] <;> (first | rfl | simp)) | (simp [*]; done)), H', ⟨by have := HK1.out; omega⟩, by repeat (first | exact Drawn0.refl _ | apply Drawn0.step)⟩
       ·rw [if_neg c10] at H
        exact absurd H (by simp)
      ·rw [if_neg c8] at H
       have c8b0 : ((bt x0_1 (ji4)) == a1) = false := beq_eq_false_iff_ne.mpr c8
       have c8b1 : ((bt x0_1 (ji4)) != a1) = true := bne_iff_ne.mpr c8
       obtain rfl := Option.some.inj H
       have p7 : 0 ≤ ((ji4) : Int) := of_decide_eq_true (by first | (with_reducible assumption) | assumption)
       have q7 : (ji4) < (x0_1.size : Int) := of_decide_eq_true (by first | (with_reducible assumption) | assumption)
       have hx7 := bt_at x0_1 (ji4)
       replace p7 := eq_true p7
       replace q7 := eq_true q7
       go_wp2
       go_ret
       exact ⟨by first | rfl | (simp; done) | (simp only [← hji4] <;> (first | rfl | simp)) | (simp [*]; done), by repeat (first | exact Drawn0.refl _ | apply Drawn0.step)⟩
     ·rw [if_neg c6] at H
      exact absurd H (by simp)
    ·rw [if_neg c5] at H
     exact absurd H (by simp)
   ·rw [if_neg c3] at H
    have c3b0 : decide (0 < (x0_1.size : Int)) = false := decide_eq_false c3
    have c3b1 : decide (0 < x0_1.size) = false := decide_eq_false (by omega)
    clear c3
    obtain rfl := Option.some.inj H
    go_wp2
    go_ret
    exact ⟨by first | rfl | (simp; done) | (simp [*]; done), by repeat (first | exact Drawn0.refl _ | apply Drawn0.step)⟩

end Go.Proofs.YthlnjbaichkipaaDoor.XR
