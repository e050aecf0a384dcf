-- by px.py, a program of this session, over the kit's printer: functions given by hand stand beside printed ones. Lean checks all of it.
import Derived.Test.YthlnjbaichkipaaDoorZXR0
import Derived.Test.YthlnjbaichkipaaDoorZXR4
import Derived.Test.YthlnjbaichkipaaDoorZGDev
import Derived.Test.YthlnjbaichkipaaDoorZGRep
import Derived.Lib.AppendZeros
import Derived.Deep.RegionLaw
import Derived.Test.YthlnjbaichkipaaDoorZGKey
import Derived.Laws.CopyOwn
import Derived.Laws.CopyRow
import Derived.Laws.MakeOwn
namespace Go.Proofs.YthlnjbaichkipaaDoor.XR
open Go.RowKit Go.Proofs.YthlnjbaichkipaaDoorW.PrintWords Go.Proofs.YthlnjbaichkipaaDoorW.PrintLast Go.Proofs.YthlnjbaichkipaaDoorW.PrintMore
attribute [local go_sem] max2_int min2_int max_two min_two max_three min_three max_four min_four   -- for this text's walks alone
set_option linter.unusedVariables false
set_option linter.unusedSimpArgs false
def dv_zeros (n : Nat) : ByteArray := ⟨(Lib.repeatL [0] n).toArray⟩
theorem dv_zeros_size (n : Nat) : (dv_zeros n).size = n := by
 show (Lib.repeatL [0] n).toArray.size = n
 rw [List.size_toArray, Lib.repeatL_length]
 simp
def dv_write (D : Dv) (at_ : Int) (s : ByteArray) : Dv × Int := if dv_there D at_ = true then if 64 < s.size then (D, 12) else if D.w.length = 4096 then (D, 8) else dv_asks ⟨D.b, D.w ++ [⟨at_, s ++ dv_zeros (64 - s.size)⟩], D.f, D.d⟩ else (D, 1)
theorem DQ.pushed {P : Nat → Prop} {g : Nat} {w w1 : World} {D : Dv} {v1 v2 v3 : Value} {l : List S60} (hPg : P g) (hrow : w.heap[g]? = some (.cells #[v1, v2, .int .i64 D.f, .bool D.d] 56 (0, 0))) (h1 : ∀ k, v1.ownBlock = some k → P k) (h2 : ∀ k, v2.ownBlock = some k → P k) (ht1 : TRow st_enc 1 9 w v1 D.b) (ht2 : TRow wt_enc 2 60 w v2 D.w)
  (hgr : w.grownBy w1 v2.ownBlock) (hat : v3.ownBlock = v2.ownBlock ∨ v3.ownBlock = some w.heap.size) (ht : TRow wt_enc 2 60 w1 v3 l) {n : Nat} (hn : n ≤ w.heap.size) :
  DQ (fun k => P k ∨ (n ≤ k ∧ k < w1.heap.size)) g (w1.setCell ⟨g, 1, none⟩ v3) ⟨D.b, l, D.f, D.d⟩ := by
 have hg1 : w1.heap[g]? = some (.cells #[v1, v2, .int .i64 D.f, .bool D.d] 56 (0, 0)) := (hgr.block g (blk_lt hrow) (fun e => by
  obtain ⟨cur, hcur⟩ := ht2.typed g e.symm
  rw [hrow] at hcur
  cases hcur)).trans hrow
 have hs := blk_set hg1 1 v3
 simp only [List.setIfInBounds_toArray, List.set_cons_zero, List.set_cons_succ] at hs
 refine ⟨.inl hPg, v1, v3, hs, fun k hk => .inl (h1 k hk), fun k hk => ?_, ht1.moved (fun k hk => ?_), ht.moved (fun k hk => ?_)⟩
 ·rcases hat with h | h
  ·exact .inl (h2 k (h ▸ hk))
  ·have hlt := ht.lt k hk
   rw [h] at hk
   injection hk with hk
   exact .inr ⟨by omega, hlt⟩
 ·have hne : k ≠ g := fun e => by
   obtain ⟨cur, hcur⟩ := ht1.typed k hk
   rw [e, hrow] at hcur
   cases hcur
  rw [Below.heap_setCell _ ⟨g, 1, none⟩ _ k hne]
  exact hgr.block k (ht1.lt k hk) (fun e => by
   obtain ⟨cur, hcur⟩ := ht1.typed k hk
   obtain ⟨cur2, hcur2⟩ := ht2.typed k e.symm
   rw [hcur] at hcur2
   cases hcur2)
 ·refine Below.heap_setCell _ ⟨g, 1, none⟩ _ k (fun e => ?_)
  obtain ⟨cur, hcur⟩ := ht.typed k hk
  simp only at e
  rw [e, hg1] at hcur
  cases hcur
set_option maxHeartbeats 2000000 in
set_option maxRecDepth 100000 in
theorem dev_write (P : Nat → Prop) (g : Nat) (D : Dv) (at_ : Int) (s : ByteArray) (w : World) (hP : ∀ k, P k → k < w.heap.size) (hq : DQ P g w D) (hf : -1 ≤ D.f) (hf2 : D.f ≤ 9223372036854775807) (hL : D.w.length < 5864062014805) :
  Calls Tryd.prog 36 #[.pointer (some ⟨g, 0, none⟩), .int .i64 at_, .string s] w fun e w' => e = .returned (.int .i64 (dv_write D at_ s).2) ∧ DQ (fun k => P k ∨ (w.heap.size ≤ k ∧ k < w'.heap.size)) g w' (dv_write D at_ s).1 ∧ Mv P w w' := by
 have hu := Tryd.underlying56
 have hu2 := Tryd.underlying25
 have hu3 := Tryd.underlying60
 have HT := dev_there g D at_ w hq.toR
 have hq' := hq.mono (S := fun k => P k ∨ (w.heap.size ≤ k ∧ k < w.heap.size)) (fun k h => .inl h)
 have HQ := Lib.hid hq
 have HQ' := Lib.hid hq'
 unfold dv_write
 obtain ⟨A1, c1, A2, c2, hrow, ht1, ht2, hp1, hp2⟩ := hq.all
 obtain ⟨g0, g1, g2, g3⟩ := blk_cells4 hrow
 have hPg := hq.1
 have HROW := Lib.hid hrow
 have HT1 := Lib.hid ht1
 have HT2 := Lib.hid ht2
 have HP1 := Lib.hid hp1
 have HP2 := Lib.hid hp2
 have HP := Lib.hid hP
 clear hq hq' hrow ht1 ht2 hp1 hp2 hP
 generalize dv_there D at_ = r at HT ⊢
 cases r with
 | false =>
  rw [if_neg (by decide)]
  go_enter Tryd.func36, Tryd.ntmps36
  go_wp2_with (first | (go_at_call 39; refine HT.mono ?_; rintro e w3 ⟨rfl, rfl⟩))
  go_ret
  exact ⟨rfl, HQ'.out, Mv.refl _ _⟩
 | true =>
  rw [if_pos rfl]
  by_cases c1_ : 64 < s.size
  ·rw [if_pos c1_]
   have d1 : decide ((64 : Int) < (s.size : Int)) = true := decide_eq_true (by omega)
   have d2 : (64 : Int) < (s.size : Int) := by omega
   go_enter Tryd.func36, Tryd.ntmps36
   go_wp2_with (first | (go_at_call 39; refine HT.mono ?_; rintro e w3 ⟨rfl, rfl⟩))
   go_ret
   exact ⟨rfl, HQ'.out, Mv.refl _ _⟩
  rw [if_neg c1_]
  have d1 : decide ((64 : Int) < (s.size : Int)) = false := decide_eq_false (by omega)
  have d2 : ¬ (64 : Int) < (s.size : Int) := by omega
  have hsz : s.size ≤ 64 := by omega
  clear c1_
  by_cases c2_ : D.w.length = 4096
  ·rw [if_pos c2_]
   have e1 : ((D.w.length : Int) == 4096) = true := beq_iff_eq.mpr (by omega)
   have e2 : ((D.w.length : Int) = 4096) = True := eq_true (by omega)
   clear c2_
   go_enter Tryd.func36, Tryd.ntmps36
   go_wp2_with (first | (go_at_call 39; refine HT.mono ?_; rintro e w3 ⟨rfl, rfl⟩))
   go_ret
   exact ⟨rfl, HQ'.out, Mv.refl _ _⟩
  rw [if_neg c2_]
  have e1 : ((D.w.length : Int) == 4096) = false := beq_eq_false_iff_ne.mpr (by omega)
  have e2 : ((D.w.length : Int) = 4096) = False := eq_false (by omega)
  clear c2_
  generalize hsp : s ++ dv_zeros (64 - s.size) = sp
  have hal : (D.w ++ [(⟨at_, sp⟩ : S60)]).length = D.w.length + 1 := by simp
  generalize hl2 : D.w ++ [(⟨at_, sp⟩ : S60)] = l2 at hal
  generalize hpp : dv_asks ⟨D.b, l2, D.f, D.d⟩ = p
  obtain ⟨E, why⟩ := p
  simp only
  have HSP := Lib.hid hsp
  have HL2 := Lib.hid hl2
  have HPP := Lib.hid hpp
  have HAL := Lib.hid hal
  clear hsp hl2 hpp hal
  go_enter Tryd.func36, Tryd.ntmps36
  go_upto_region 7 with (first | (go_at_call 39; refine HT.mono ?_; rintro e w3 ⟨rfl, rfl⟩))
  have mixed : Tryd.prog.follows Departure.mixedOrders = true := by kernel_rfl
  have hw1 : wrap64 (64 - (s.size : Int)) = ((64 - s.size : Nat) : Int) := by unfold wrap64; omega
  have hw2 : IntKind.i64.wrap (64 - (s.size : Int)) = ((64 - s.size : Nat) : Int) := (i64_w _).trans hw1
  have hw3 : ¬ 9223372036854775807 < s.size + (dv_zeros (64 - s.size)).size := by rw [dv_zeros_size]; omega
  clear d1 d2 e1 e2
  refine start_ (n := 20) (S := fun w' => w'.cell? ⟨g, 1, none⟩ = some (.slice A2 D.w.length c2)) (ds := [19]) #[false, false, false, false, false, false, false, false, false, false, false, false, false, false, false, false, false, false, false, false] (by kernel_rfl) rfl rfl (g1) (fun hHeld => ?_)
  refine pure_ (i := 0) (N := some 24) (v := ?_) (a' := ?_) #[true, false, false, false, false, false, false, false, false, false, false, false, false, false, false, false, false, false, false, false] rfl rfl (by kernel_rfl) (fun _ _ _ h => h) (Or.inl ⟨by rfl, ?_⟩) ?_ ?_
  rotate_left
  ·intro w'
   go_simp
   with_reducible rfl
  rotate_left
  ·simp only [Act.put, List.setIfInBounds_toArray, List.set_cons_zero, List.set_cons_succ, i64_w, i32_w]
   rfl
  refine pure_ (i := 1) (N := some 25) (v := ?_) (a' := ?_) #[true, true, false, false, false, false, false, false, false, false, false, false, false, false, false, false, false, false, false, false] rfl rfl (by kernel_rfl) (fun _ _ _ h => h) (Or.inl ⟨by rfl, ?_⟩) ?_ ?_
  rotate_left
  ·intro w'
   go_simp
   with_reducible rfl
  rotate_left
  ·simp only [Act.put, List.setIfInBounds_toArray, List.set_cons_zero, List.set_cons_succ, i64_w, i32_w]
   rfl
  refine pure_ (i := 2) (N := some 26) (v := ?_) (a' := ?_) #[true, true, true, false, false, false, false, false, false, false, false, false, false, false, false, false, false, false, false, false] rfl rfl (by kernel_rfl) (fun _ _ _ h => h) (Or.inl ⟨by rfl, ?_⟩) ?_ ?_
  rotate_left
  ·intro w'
   go_simp
   with_reducible rfl
  rotate_left
  ·simp only [Act.put, List.setIfInBounds_toArray, List.set_cons_zero, List.set_cons_succ, i64_w, i32_w]
   rfl
  refine pure_ (i := 3) (N := some 27) (v := ?_) (a' := ?_) #[true, true, true, true, false, false, false, false, false, false, false, false, false, false, false, false, false, false, false, false] rfl rfl (by kernel_rfl) (fun _ _ _ h => h) (Or.inl ⟨by rfl, ?_⟩) ?_ ?_
  rotate_left
  ·intro w'
   go_simp
   with_reducible rfl
  rotate_left
  ·simp only [Act.put, List.setIfInBounds_toArray, List.set_cons_zero, List.set_cons_succ, i64_w, i32_w]
   rfl
  refine pure_ (i := 4) (N := some 28) (v := ?_) (a' := ?_) #[true, true, true, true, true, false, false, false, false, false, false, false, false, false, false, false, false, false, false, false] rfl rfl (by kernel_rfl) (fun _ _ _ h => h) (Or.inl ⟨by rfl, ?_⟩) ?_ ?_
  rotate_left
  ·intro w'
   go_simp
   with_reducible rfl
  rotate_left
  ·simp only [Act.put, List.setIfInBounds_toArray, List.set_cons_zero, List.set_cons_succ, i64_w, i32_w]
   rfl
  refine take_ (i := 5) (N := some 29) (v := ?_) (a' := ?_) #[true, true, true, true, true, true, false, false, false, false, false, false, false, false, false, false, false, false, false, false] rfl rfl (by kernel_rfl) (fun _ _ _ h => h) (Or.inl ⟨by rfl, ?_⟩) hHeld ?_ ?_
  rotate_left
  ·rintro w' s0
   go_simp
   with_reducible rfl
  rotate_left
  ·simp only [Act.put, List.setIfInBounds_toArray, List.set_cons_zero, List.set_cons_succ, i64_w, i32_w]
   rfl
  refine pure_ (i := 6) (N := some 30) (v := ?_) (a' := ?_) #[true, true, true, true, true, true, true, false, false, false, false, false, false, false, false, false, false, false, false, false] rfl rfl (by kernel_rfl) (fun _ _ _ h => h) (Or.inl ⟨by rfl, ?_⟩) ?_ ?_
  rotate_left
  ·intro w'
   go_simp
   with_reducible rfl
  rotate_left
  ·simp only [Act.put, List.setIfInBounds_toArray, List.set_cons_zero, List.set_cons_succ, i64_w, i32_w]
   rfl
  refine pure_ (i := 7) (N := some 31) (v := ?_) (a' := ?_) #[true, true, true, true, true, true, true, true, false, false, false, false, false, false, false, false, false, false, false, false] rfl rfl (by kernel_rfl) (fun _ _ _ h => h) (Or.inl ⟨by rfl, ?_⟩) ?_ ?_
  rotate_left
  ·intro w'
   go_simp
   with_reducible rfl
  rotate_left
  ·simp only [Act.put, List.setIfInBounds_toArray, List.set_cons_zero, List.set_cons_succ, i64_w, i32_w]
   rfl
  refine pure_ (i := 8) (N := some 32) (v := ?_) (a' := ?_) #[true, true, true, true, true, true, true, true, true, false, false, false, false, false, false, false, false, false, false, false] rfl rfl (by kernel_rfl) (fun _ _ _ h => h) (Or.inl ⟨by rfl, ?_⟩) ?_ ?_
  rotate_left
  ·intro w'
   go_simp
   with_reducible rfl
  rotate_left
  ·simp only [Act.put, List.setIfInBounds_toArray, List.set_cons_zero, List.set_cons_succ, i64_w, i32_w]
   rfl
  refine pure_ (i := 9) (N := some 33) (v := ?_) (a' := ?_) #[true, true, true, true, true, true, true, true, true, true, false, false, false, false, false, false, false, false, false, false] rfl rfl (by kernel_rfl) (fun _ _ _ h => h) (Or.inl ⟨by rfl, ?_⟩) ?_ ?_
  rotate_left
  ·intro w'
   go_simp
   with_reducible rfl
  rotate_left
  ·simp only [Act.put, List.setIfInBounds_toArray, List.set_cons_zero, List.set_cons_succ, i64_w, i32_w]
   rfl
  refine pure_ (i := 10) (N := some 34) (v := ?_) (a' := ?_) #[true, true, true, true, true, true, true, true, true, true, true, false, false, false, false, false, false, false, false, false] rfl rfl (by kernel_rfl) (fun _ _ _ h => h) (Or.inl ⟨by rfl, ?_⟩) ?_ ?_
  rotate_left
  ·intro w'
   go_simp
   with_reducible rfl
  rotate_left
  ·simp only [Act.put, List.setIfInBounds_toArray, List.set_cons_zero, List.set_cons_succ, i64_w, i32_w]
   rfl
  refine one_ (i := 11) (N := some 35) #[true, true, true, true, true, true, true, true, true, true, true, true, false, false, false, false, false, false, false, false] rfl rfl (by kernel_rfl) (by decide) (fun K hK => ?_)
  refine call_ 26 #[.string ⟨#[0]⟩, .int .i64 ((64 - s.size : Nat) : Int)] rfl rfl (by go_simp) ?_
  refine (show Calls Tryd.prog 26 #[.string ⟨#[0]⟩, .int .i64 ((64 - s.size : Nat) : Int)] _ (fun e w_ => e = .returned (.string (dv_zeros (64 - s.size))) ∧ _) from Tryd.strings_Repeat ⟨#[0]⟩ (64 - s.size) _ (by omega) (by show 1 * (64 - s.size) ≤ _; omega)).mono ?_
  rintro e w4 ⟨rfl, hb4⟩
  refine ⟨_, rfl, ?_⟩
  refine hK.out _ _ (pw_cell_below hb4 hHeld) (fun hHeld2 => ?_)
  clear hK K
  refine norm_ (a' := ?_) ?_ ?_
  rotate_left
  ·show Act.put _ (some 35) _ = _
   simp only [Act.put, List.setIfInBounds_toArray, List.set_cons_zero, List.set_cons_succ, i64_w, i32_w]
   rfl
  refine pure_ (i := 12) (N := some 36) (v := ?_) (a' := ?_) #[true, true, true, true, true, true, true, true, true, true, true, true, true, false, false, false, false, false, false, false] rfl rfl (by kernel_rfl) (fun _ _ _ h => h) (Or.inl ⟨by rfl, ?_⟩) ?_ ?_
  rotate_left
  ·intro w'
   go_simp
   with_reducible rfl
  rotate_left
  ·simp only [Act.put, List.setIfInBounds_toArray, List.set_cons_zero, List.set_cons_succ, i64_w, i32_w]
   rfl
  refine pure_ (i := 13) (N := some 37) (v := ?_) (a' := ?_) #[true, true, true, true, true, true, true, true, true, true, true, true, true, true, false, false, false, false, false, false] rfl rfl (by kernel_rfl) (fun _ _ _ h => h) (Or.inl ⟨by rfl, ?_⟩) ?_ ?_
  rotate_left
  ·intro w'
   go_simp
   with_reducible rfl
  rotate_left
  ·simp only [Act.put, List.setIfInBounds_toArray, List.set_cons_zero, List.set_cons_succ, i64_w, i32_w]
   rfl
  refine one_ (i := 14) (N := some 38) #[true, true, true, true, true, true, true, true, true, true, true, true, true, true, true, false, false, false, false, false] rfl rfl (by kernel_rfl) (by decide) (fun K hK => ?_)
  rw [HSP.out]
  refine event_step (w1 := w4.alloc (.cells #[.int .i64 at_, .string sp] 60)) (v := .slice (some ⟨w4.heap.size, 0, none⟩) 1 1) rfl (by go_simp) ?_
  have hb5 := below_alloc (Below.refl w4.heap.size w4) (.cells #[.int .i64 at_, .string sp] 60)
  refine hK.out _ _ (pw_cell_below hb5 hHeld2) (fun hHeld3 => ?_)
  clear hK K
  refine norm_ (a' := ?_) ?_ ?_
  rotate_left
  ·show Act.put _ (some 38) _ = _
   simp only [Act.put, List.setIfInBounds_toArray, List.set_cons_zero, List.set_cons_succ, i64_w, i32_w]
   rfl
  have hnew := blk_new w4 (.cells #[.int .i64 at_, .string sp] 60)
  have hb45 : Below w3.heap.size w3 (w4.alloc (.cells #[.int .i64 at_, .string sp] 60)) := below_then (below_then (below_drew1 (Below.refl _ w3)) (Nat.le_refl _) hb4) (below_then (below_drew1 (Below.refl _ w3)) (Nat.le_refl _) hb4).size hb5
  generalize hw5 : (w4.alloc (.cells #[.int .i64 at_, .string sp] 60)) = w5 at hnew hb45 hHeld3 ⊢
  have hs45 : w4.heap.size < w5.heap.size := blk_lt hnew
  generalize w4.heap.size = q at hnew hs45 ⊢
  clear hHeld hHeld2 hb4 hb5 hw5 w4
  have hrow5 := (hb45.block g (blk_lt HROW.out)).trans HROW.out
  have ht1 : TRow st_enc 1 9 w5 (.slice A1 D.b.length c1) D.b := HT1.out.moved (fun k hk => hb45.block k (HT1.out.lt k hk))
  have ht2 : TRow wt_enc 2 60 w5 (.slice A2 D.w.length c2) D.w := HT2.out.moved (fun k hk => hb45.block k (HT2.out.lt k hk))
  obtain ⟨i0, hi0, hz0⟩ := info_parts info60
  obtain ⟨v6, w6, hrun, ht6, hgr6, hat6⟩ := run_append_trow (P := Tryd.prog) (T := 23) (ty := 23) (enc := wt_enc) (sz := 2) Tryd.underlying23 hi0 hz0.1 hz0.2.1 rfl (by rw [hz0.2.2]; decide) (fun _ => rfl) (fun y u hu => by simp [wt_enc] at hu; rcases hu with rfl | rfl <;> rfl) ht2 ⟨at_, sp⟩ q (fun t u hu => by
   rw [blk_cell hnew, ← hu]
   unfold wt_enc
   rw [List.getElem?_toArray]) (by rw [hz0.2.2]; omega)
  have hpq := DQ.pushed (n := w3.heap.size) hPg hrow5 HP1.out HP2.out ht1 ht2 hgr6 hat6 ht6 hb45.size
  have hne6 : some g ≠ (Value.slice A2 D.w.length c2).ownBlock := fun e => by
   obtain ⟨cur, hcur⟩ := ht2.typed g e.symm
   rw [hrow5] at hcur
   cases hcur
  have hrow6 := blk_grown hrow5 hgr6 hne6
  obtain ⟨y0, y1, y2, y3⟩ := blk_cells4 hrow6
  have f1 := blk_frozen hrow6 1
  have hm6 : Mv P w3 w6 := (Mv.of_below hb45 P).grown hgr6 (fun k hk => .inl (HP2.out k hk))
  have hm7 := hm6.set (p := ⟨g, 1, none⟩) (.inl hPg) v6
  have HQ7 := Lib.hid hpq
  have HM7 := Lib.hid hm7
  have HRUN := Lib.hid hrun
  obtain ⟨A6, c6, rfl, hl6⟩ := ht6.slice
  rw [HL2.out, HAL.out] at HRUN HM7
  rw [HL2.out, HAL.out] at HQ7
  clear hpq hm6 hm7 hrun hrow5 hrow6 ht1 ht2 ht6 hgr6 hat6 hi0 hz0 hnew hb45 hne6 hs45
  refine one_ (i := 15) (N := some 39) #[true, true, true, true, true, true, true, true, true, true, true, true, true, true, true, true, false, false, false, false] rfl rfl (by kernel_rfl) (by decide) (fun K hK => ?_)
  refine event_step (w1 := w6) (v := .slice A6 (D.w.length + 1) c6) rfl (by simp [execOp, resolve, invoke, builtin, Act.eval, HRUN.out, Result.andThen]) ?_
  refine hK.out _ _ y1 (fun hHeld4 => ?_)
  clear hK K
  refine norm_ (a' := ?_) ?_ ?_
  rotate_left
  ·show Act.put _ (some 39) _ = _
   simp only [Act.put, List.setIfInBounds_toArray, List.set_cons_zero, List.set_cons_succ, i64_w, i32_w]
   rfl
  refine pure_ (i := 16) (N := some 40) (v := ?_) (a' := ?_) #[true, true, true, true, true, true, true, true, true, true, true, true, true, true, true, true, true, false, false, false] rfl rfl (by kernel_rfl) (fun _ _ _ h => h) (Or.inl ⟨by rfl, ?_⟩) ?_ ?_
  rotate_left
  ·intro w'
   go_simp
   with_reducible rfl
  rotate_left
  ·simp only [Act.put, List.setIfInBounds_toArray, List.set_cons_zero, List.set_cons_succ, i64_w, i32_w]
   rfl
  refine pure_ (i := 17) (N := some 41) (v := ?_) (a' := ?_) #[true, true, true, true, true, true, true, true, true, true, true, true, true, true, true, true, true, true, false, false] rfl rfl (by kernel_rfl) (fun _ _ _ h => h) (Or.inl ⟨by rfl, ?_⟩) ?_ ?_
  rotate_left
  ·intro w'
   go_simp
   with_reducible rfl
  rotate_left
  ·simp only [Act.put, List.setIfInBounds_toArray, List.set_cons_zero, List.set_cons_succ, i64_w, i32_w]
   rfl
  refine pure_ (i := 18) (N := some 42) (v := ?_) (a' := ?_) #[true, true, true, true, true, true, true, true, true, true, true, true, true, true, true, true, true, true, true, false] rfl rfl (by kernel_rfl) (fun _ _ _ h => h) (Or.inl ⟨by rfl, ?_⟩) ?_ ?_
  rotate_left
  ·intro w'
   go_simp
   with_reducible rfl
  rotate_left
  ·simp only [Act.put, List.setIfInBounds_toArray, List.set_cons_zero, List.set_cons_succ, i64_w, i32_w]
   rfl
  refine last_ (i := 19) (N := none) #[true, true, true, true, true, true, true, true, true, true, true, true, true, true, true, true, true, true, true, true] rfl rfl (by kernel_rfl) (by decide) (fun K hK => ?_)
  refine skip_ (w1 := ?_) (by rfl) rfl ?_ ?_
  rotate_left
  ·go_simp
   rfl
  refine hK.out _ _ ?_
  clear hK K
  refine done_ (by kernel_rfl) ?_
  have hsz6 : (w6.setCell ⟨g, 1, none⟩ (.slice A6 (D.w.length + 1) c6)).heap.size = w6.heap.size := by simp [World.setCell]
  have HSZ := Lib.hid hsz6
  clear hsz6 hHeld3 hHeld4 y0 y1 y2 y3 f1 HRUN g0 g1 g2 g3 hw1 hw2 hw3
  generalize (w6.setCell ⟨g, 1, none⟩ (.slice A6 (D.w.length + 1) c6)) = w7 at HQ7 HM7 HSZ ⊢
  have HA := dev_asks _ g ⟨D.b, l2, D.f, D.d⟩ w7 HQ7.out hf hf2
  rw [HPP.out] at HA
  go_wp2_with (go_at_call 47; refine HA.mono ?_; rintro e w8 ⟨rfl, hq8, hm8⟩; have HQ8 := Lib.hid hq8; have HM8 := Lib.hid hm8; clear hq8 hm8)
  go_ret
  have hs8 := HM8.out.size
  have hz := HSZ.out
  exact ⟨rfl, HQ8.out.mono (fun k hk => hk.imp id (fun h => ⟨h.1, by omega⟩)), HM7.out.then_ HM8.out (fun k hk => hk.imp id (fun h => h.1))⟩
def dv_Sync (D : Dv) : Dv × Int := if dv_open D = 0 then dv_sync D else (dv_dev D, dv_open D)
def block_Sync.f (l0_0 : List ByteArray) (l0_1 : List (S60)) (a0_2 : Int) (a0_3 : Bool) : Option (List ByteArray × (List (S60)) × Int × Bool × Int) := if dv_fit ⟨l0_0, l0_1, a0_2, a0_3⟩ then some (dv_five (dv_Sync ⟨l0_0, l0_1, a0_2, a0_3⟩)) else none
theorem dv_ok_inw {D : Dv} (h : dv_ok D = true) : dv_inw D := by
 unfold dv_ok at h
 simp only [Bool.and_eq_true, decide_eq_true_eq, List.all_eq_true] at h
 intro x hx
 have := h.2.2.2.2 x hx
 unfold dv_okw at this
 simp only [Bool.and_eq_true, decide_eq_true_eq] at this
 exact ⟨this.1, this.2.1⟩
set_option maxHeartbeats 2000000 in
set_option maxRecDepth 100000 in
theorem block_Sync.calls (A0_0 : Option Addr) (c0_0 : Nat) (l0_0 : List ByteArray) (A0_1 : Option Addr) (c0_1 : Nat) (l0_1 : List (S60)) (a0_2 : Int) (a0_3 : Bool) (r1 : List ByteArray) (r2 : List (S60)) (r3 : Int) (r4 : Bool) (r5 : Int) (w : World) (hr0_0 : Kd.C Kd.string w A0_0 l0_0.length l0_0) (hc0_0 : l0_0.length ≤ c0_0) (hr0_1 : Kd.C k60 w A0_1 l0_1.length l0_1) (hc0_1 : l0_1.length ≤ c0_1) (h : block_Sync.f l0_0 l0_1 a0_2 a0_3 = some (r1, r2, r3, r4, r5)) :
  Calls Tryd.prog 15 #[.agg #[.slice A0_0 l0_0.length c0_0, .slice A0_1 l0_1.length c0_1, .int .i64 a0_2, .bool a0_3]] w fun e w' => ∃ v0_ v1_ : Value, e = .returned (.tuple #[.agg #[v0_, v1_, .int .i64 r3, .bool r4], .int .i64 r5]) ∧ Kd.V Kd.string 9 w' w.heap.size (fun k_ => (w.heap.size ≤ k_)) v0_ r1 ∧ Kd.V k60 60 w' w.heap.size (fun k_ => (w.heap.size ≤ k_)) v1_ r2 ∧ Below w.heap.size w w' := by
 have hu := Tryd.underlying56
 have hu2 := Tryd.underlying25
 unfold block_Sync.f at h
 obtain ⟨D, hD⟩ : ∃ D : Dv, D = ⟨l0_0, l0_1, a0_2, a0_3⟩ := ⟨_, rfl⟩
 rw [← hD] at h
 obtain ⟨rfl, rfl, rfl, rfl⟩ : l0_0 = D.b ∧ l0_1 = D.w ∧ a0_2 = D.f ∧ a0_3 = D.d := by rw [hD]; exact ⟨rfl, rfl, rfl, rfl⟩
 clear hD
 split at h
 rotate_left
 ·cases h
 rename_i hfit
 have H := Option.some.inj h
 clear h
 obtain ⟨E, hE⟩ : ∃ E, E = dv_Sync D := ⟨_, rfl⟩
 rw [← hE] at H
 unfold dv_five at H
 simp only [Prod.mk.injEq] at H
 obtain ⟨rfl, rfl, rfl, rfl, rfl⟩ := H
 have hb := below_alloc (below_alloc (Below.refl w.heap.size w) (.cells #[.slice A0_0 D.b.length c0_0, .slice A0_1 D.w.length c0_1, .int .i64 D.f, .bool D.d] 25)) (.cells #[.slice none 0 0, .slice none 0 0, .int .i64 0, .bool false] 25)
 have hn := blk_new (w.alloc (.cells #[.slice A0_0 D.b.length c0_0, .slice A0_1 D.w.length c0_1, .int .i64 D.f, .bool D.d] 25)) (.cells #[.slice none 0 0, .slice none 0 0, .int .i64 0, .bool false] 25)
 rw [World.size_alloc] at hn
 have HO := Lib.hid (dev_open A0_0 c0_0 A0_1 c0_1 D _ (Kd.C_below hr0_0 hb) hc0_0 (Kd.C_below hr0_1 hb) hc0_1 hfit)
 have HB := Lib.hid hb
 have HN := Lib.hid hn
 clear hr0_0 hr0_1 hb hn
 change Hid (Calls _ _ _ _ (fun e w' => ∃ g, e = .returned (.tuple #[.pointer (some ⟨g, 0, none⟩), .int .i64 (dv_open D)]) ∧ DQ _ g w' (dv_dev D) ∧ _)) at HO
 unfold dv_Sync at hE
 by_cases c : dv_open D = 0
 rotate_left
 ·rw [if_neg c] at hE
  subst hE
  simp only
  generalize dv_dev D = E at HO ⊢
  generalize dv_open D = r at HO c ⊢
  have d : (r == 0) = false := beq_eq_false_iff_ne.mpr c
  go_enter Tryd.func15, Tryd.ntmps15
  go_wp2_with (first | (go_at_call 24; refine HO.out.mono ?_; rintro e w3 ⟨g, rfl, hq3, hb3⟩; have HQ3 := Lib.hid hq3; have HB3 := Lib.hid (below_then HB.out HB.out.size hb3); obtain ⟨B1, e1, B2, e2, hrow, _⟩ := hq3.all; have HROW := Lib.hid hrow; have HCUR := Lib.hid ((hb3.block _ (blk_lt HN.out)).trans HN.out); obtain ⟨y0, y1, y2, y3⟩ := blk_cells4 hrow; have HOUT := Lib.hid (dev_out hq3 hrow HB3.out (s := w.heap.size + 1) (by omega) (fun k hk => by have := hk.1; simp at this; omega) HCUR.out); clear hb3 hq3 hrow) | (refine keys_store_row rfl 25 (.tmp 2) (.tmp 18) rfl (w.heap.size + 1) _ #[.slice B1 E.b.length e1, .slice B2 E.w.length e2, .int .i64 E.f, .bool E.d] 25 rfl rfl HCUR.out rfl (by kernel_rfl) (by intro v hv; simp at hv; rcases hv with rfl | rfl | rfl | rfl <;> rfl) ?_))
  obtain ⟨o1, o2, o3, o4⟩ := HOUT.out
  obtain ⟨x0, x1, x2, x3⟩ := blk_cells4 o1
  refine bodyPost_ret (v := .tuple #[.agg #[.slice B1 E.b.length e1, .slice B2 E.w.length e2, .int .i64 E.f, .bool E.d], .int .i64 r]) (by simp [results, Tryd.results15, go_sem, x0, x1, x2, x3]) rfl ⟨_, _, rfl, o2, o3, o4⟩
 ·rw [if_pos c] at hE
  have hch := dv_open_zero c
  have hok := dv_ok_fuse (dv_check_ok hch)
  have hin := dv_ok_inw (dv_check_ok hch)
  have HIN := Lib.hid hin
  clear hin
  unfold dv_dev at HO
  rw [if_pos hch, c] at HO
  clear c hch
  obtain ⟨E, r⟩ := E
  simp only
  have HE := Lib.hid hE
  have HFIT := Lib.hid hfit
  clear hE hfit
  go_enter Tryd.func15, Tryd.ntmps15
  go_wp2_with (first | (go_at_call 24; refine HO.out.mono ?_; rintro e w3 ⟨g, rfl, hq3, hb3⟩; have HB3 := Lib.hid (below_then HB.out HB.out.size hb3); have HCUR := Lib.hid ((hb3.block _ (blk_lt HN.out)).trans HN.out); have HW := Lib.hid (dev_sync _ g D w3 (fun k hk => hk.2) hq3 hok HFIT.out.2.2 HIN.out); rw [← HE.out] at HW; clear hb3 hq3) | (go_at_call 28; refine HW.out.mono ?_; rintro e w4 ⟨rfl, hq4, hm4⟩; have hb4 : Below w.heap.size w w4 := HB3.out.trans (hm4.under HB3.out.size (fun k hk => by have := hk.1; simp at this; omega)); obtain ⟨B1, e1, B2, e2, hrow, _⟩ := hq4.all; have HCUR4 := Lib.hid (hm4.blk HCUR.out (fun h => by have := h.1; simp at this; omega)); obtain ⟨y0, y1, y2, y3⟩ := blk_cells4 hrow; have HOUT := Lib.hid (dev_out hq4 hrow hb4 (s := w.heap.size + 1) (by omega) (fun k hk => by have hs := hb4.size; have hs3 := HB3.out.size; have hl := blk_lt HCUR.out; (have h1 := hk.1; (try simp only [World.size_alloc] at h1); omega)) HCUR4.out); clear hb4 hq4 hrow hm4) | (refine keys_store_row rfl 25 (.tmp 2) (.tmp 18) rfl (w.heap.size + 1) _ #[.slice B1 E.b.length e1, .slice B2 E.w.length e2, .int .i64 E.f, .bool E.d] 25 rfl rfl HCUR4.out rfl (by kernel_rfl) (by intro v hv; simp at hv; rcases hv with rfl | rfl | rfl | rfl <;> rfl) ?_))
  obtain ⟨o1, o2, o3, o4⟩ := HOUT.out
  obtain ⟨x0, x1, x2, x3⟩ := blk_cells4 o1
  refine bodyPost_ret (v := .tuple #[.agg #[.slice B1 E.b.length e1, .slice B2 E.w.length e2, .int .i64 E.f, .bool E.d], .int .i64 r]) (by simp [results, Tryd.results15, go_sem, x0, x1, x2, x3]) rfl ⟨_, _, rfl, o2, o3, o4⟩


def dv_Read (D : Dv) (at_ : Int) : ByteArray × Int := if dv_open D = 0 then dv_read D at_ else (⟨#[]⟩, dv_open D)
def block_Read.f (l0_0 : List ByteArray) (l0_1 : List (S60)) (a0_2 : Int) (a0_3 : Bool) (a1 : Int) : Option (ByteArray × Int) := if dv_fit ⟨l0_0, l0_1, a0_2, a0_3⟩ then some (dv_Read ⟨l0_0, l0_1, a0_2, a0_3⟩ a1) else none
set_option maxHeartbeats 2000000 in
set_option maxRecDepth 100000 in
theorem block_Read.calls (A0_0 : Option Addr) (c0_0 : Nat) (l0_0 : List ByteArray) (A0_1 : Option Addr) (c0_1 : Nat) (l0_1 : List (S60)) (a0_2 : Int) (a0_3 : Bool) (a1 : Int) (r1 : ByteArray) (r2 : Int) (w : World) (hr0_0 : Kd.C Kd.string w A0_0 l0_0.length l0_0) (hc0_0 : l0_0.length ≤ c0_0) (hr0_1 : Kd.C k60 w A0_1 l0_1.length l0_1) (hc0_1 : l0_1.length ≤ c0_1) (h : block_Read.f l0_0 l0_1 a0_2 a0_3 a1 = some (r1, r2)) :
  Calls Tryd.prog 13 #[.agg #[.slice A0_0 l0_0.length c0_0, .slice A0_1 l0_1.length c0_1, .int .i64 a0_2, .bool a0_3], .int .i64 a1] w fun e w' => e = .returned (.tuple #[.string r1, .int .i64 r2]) ∧ Below w.heap.size w w' := by
 have hu := Tryd.underlying56
 have hu2 := Tryd.underlying25
 unfold block_Read.f at h
 obtain ⟨D, hD⟩ : ∃ D : Dv, D = ⟨l0_0, l0_1, a0_2, a0_3⟩ := ⟨_, rfl⟩
 rw [← hD] at h
 obtain ⟨rfl, rfl, rfl, rfl⟩ : l0_0 = D.b ∧ l0_1 = D.w ∧ a0_2 = D.f ∧ a0_3 = D.d := by rw [hD]; exact ⟨rfl, rfl, rfl, rfl⟩
 clear hD
 split at h
 rotate_left
 ·cases h
 rename_i hfit
 have hE := (Option.some.inj h).symm
 clear h
 have hb := below_alloc (Below.refl w.heap.size w) (.cells #[.slice A0_0 D.b.length c0_0, .slice A0_1 D.w.length c0_1, .int .i64 D.f, .bool D.d] 25)
 have HO := Lib.hid (dev_open A0_0 c0_0 A0_1 c0_1 D _ (Kd.C_below hr0_0 hb) hc0_0 (Kd.C_below hr0_1 hb) hc0_1 hfit)
 have HB := Lib.hid hb
 clear hr0_0 hr0_1 hb
 unfold dv_Read at hE
 by_cases c : dv_open D = 0
 rotate_left
 ·rw [if_neg c] at hE
  simp only [Prod.mk.injEq] at hE
  obtain ⟨rfl, rfl⟩ := hE
  generalize dv_open D = r at HO c ⊢
  have d : (r != 0) = true := bne_iff_ne.mpr c
  go_enter Tryd.func13, Tryd.ntmps13
  go_wp2_with (first | (go_at_call 24; refine HO.out.mono ?_; rintro e w3 ⟨g, rfl, hq3, hb3⟩; have HB3 := Lib.hid (below_then HB.out HB.out.size hb3); clear hb3 hq3))
  go_ret2
  exact ⟨rfl, HB3.out⟩
 ·rw [if_pos c] at hE
  rw [if_pos (dv_open_zero c), c] at HO
  clear c
  have HE := Lib.hid hE
  clear hE hfit
  go_enter Tryd.func13, Tryd.ntmps13
  go_wp2_with (first | (go_at_call 24; refine HO.out.mono ?_; rintro e w3 ⟨g, rfl, hq3, hb3⟩; have HB3 := Lib.hid (below_then HB.out HB.out.size hb3); have HW := Lib.hid (dev_read g D a1 w3 hq3.toR); rw [← HE.out] at HW; clear hb3 hq3) | (go_at_call 25; refine HW.out.mono ?_; rintro e w4 ⟨rfl, hb4⟩; have HB4 := Lib.hid (below_then HB3.out HB3.out.size hb4); clear hb4))
  go_ret2
  exact ⟨rfl, HB4.out⟩
theorem splice_same {L : List Value} {v : Value} {m k : Nat} (h : ∀ j, j < m → L[j]? = some v) (hm : m + k ≤ L.length) : ∀ j, j < m + k → (splice L m (List.replicate k v))[j]? = some v := by
 intro j hj
 unfold splice
 rcases Nat.lt_or_ge j m with c | c
 ·rw [List.getElem?_append_left (by rw [List.length_take]; omega), List.getElem?_take, if_pos c]
  exact h j c
 ·rw [List.getElem?_append_right (by rw [List.length_take]; omega), List.length_take, Nat.min_eq_left (by omega), List.getElem?_append_left (by rw [List.length_replicate]; omega), List.getElem?_replicate, if_pos (by omega)]
theorem run_copy_same (z : ByteArray) {w : World} {b o dLen dCap sLen sCap n k : Nat} {a : Addr} {cur : List Value} (hg : w.heap[b]? = some (.cells cur.toArray 9 (0, 0))) (hl : cur.length = n) (hcur : ∀ j, j < o → cur[j]? = some (.string z)) (hk : k = min sLen dLen) (ho : o + k ≤ n) (hs : ∀ j, j < k → w.cell? (a.add j) = some (.string z)) :
  ∃ w', (Builtin.copy_ #[22, 22] 3 #[.slice (some ⟨b, o, none⟩) dLen dCap, .slice (some a) sLen sCap]).run Tryd.prog w = .ok (.int .i64 (k : Int)) w' ∧ (∃ cur' : List Value, w'.heap[b]? = some (.cells cur'.toArray 9 (0, 0)) ∧ cur'.length = n ∧ ∀ j, j < o + k → cur'[j]? = some (.string z)) ∧ ∀ B w0, Below B w0 w → B ≤ b → Below B w0 w' := by
 have hsz : (Tryd.prog.info? 9).map (·.size) = some 1 := by
  obtain ⟨i0, hi0, hz0⟩ := info_parts info9
  rw [hi0]; simp [hz0.2.1]
 have h := run_copy_row (P := Tryd.prog) w 22 22 3 9 b o dLen dCap a sLen sCap cur.toArray 9 (List.replicate k (Value.string z)) Tryd.underlying22 hsz hg (by rw [List.length_replicate]; exact hk) (fun j v hv => by
  rw [List.getElem?_replicate] at hv
  split at hv
  ·cases hv; exact hs j (by assumption)
  ·cases hv) (by rw [List.length_replicate, List.size_toArray]; omega) (fun v hv => by rw [List.mem_replicate] at hv; rw [hv.2]; rfl)
 rw [List.length_replicate] at h
 refine ⟨_, h, ⟨splice cur o (List.replicate k (Value.string z)), ?_, by rw [length_splice _ _ _ (by rw [List.length_replicate]; omega)]; exact hl, splice_same hcur (by omega)⟩, fun B w0 hb hB => keys_below_setRow hb hB _⟩
 have hr := setRow_heap w b cur.toArray (cur.toArray.toList.take o ++ List.replicate k (Value.string z) ++ cur.toArray.toList.drop (o + k)).toArray 9 (0, 0) hg
 rw [hr]
 unfold splice
 simp
set_option maxHeartbeats 2000000 in
set_option maxRecDepth 100000 in
theorem slices_repeat (z : ByteArray) (n : Nat) (hn : n ≤ 4096) (q : Nat) (w : World) (hq : w.cell? ⟨q, 0, none⟩ = some (.string z)) :
  Calls Tryd.prog 27 #[.slice (some ⟨q, 0, none⟩) 1 1, .int .i64 (n : Int)] w fun e w' => ∃ b, e = .returned (.slice (some ⟨b, 0, none⟩) n n) ∧ w.heap.size ≤ b ∧ TRow st_enc 1 9 w' (.slice (some ⟨b, 0, none⟩) n n) (List.replicate n z) ∧ Below w.heap.size w w' := by
 obtain ⟨i0, hi0, hz0⟩ := info_parts info9
 have hmk : ∀ w : World, (Instr.makeSlice 22 (.int .i64 (n : Int)) (.int .i64 (n : Int))).run Tryd.prog w = .ok (.slice (some ⟨w.heap.size, 0, none⟩) n n) (w.alloc (.cells (madeCells #[.string ⟨#[]⟩] n) 9)) := fun w => by
  have h := run_make (P := Tryd.prog) w 22 9 i0 (.string ⟨#[]⟩) Tryd.underlying22 hi0 hz0.1 .i64 .i64 (n : Int) (n : Int) (by omega) (Int.le_refl _) (by rw [hz0.2.2]; omega) (by omega)
  rw [hz0.2.1, Nat.mul_one, Int.toNat_natCast] at h
  exact h
 have HM : Calls Tryd.prog 41 #[.int .u64 1, .int .u64 (n : Int)] w fun e w' => e = .returned (.tuple #[.int .u64 0, .int .u64 (n : Int)]) ∧ w = w' := by
  have h := Tryd.bits_Mul 1 n (by omega) (by omega) w
  rw [Nat.one_mul, Nat.div_eq_of_lt (by omega), Nat.mod_eq_of_lt (by omega)] at h
  exact h.mono (fun e w' ⟨he, hw⟩ => ⟨he, hw.symm⟩)
 have n0 : ¬ (n : Int) < 0 := by omega
 have n1 : ¬ (9223372036854775807 : Int) < (n : Int) := by omega
 have d1 : decide ((9223372036854775807 : Int) < (n : Int)) = false := decide_eq_false n1
 have hwu : IntKind.u64.wrap (n : Int) = (n : Int) := by rw [IntKind.wrap_u64]; omega
 have hsz : (Tryd.prog.info? 9).map (·.size) = some 1 := by rw [hi0]; simp [hz0.2.1]
 have hqw : q < w.heap.size := World.block_lt_of_cell? w _ hq
 have hB1 := below_alloc (Below.refl w.heap.size w) (.cells (madeCells #[.string ⟨#[]⟩] n) 9)
 have hn1 := blk_new w (.cells (madeCells #[.string ⟨#[]⟩] n) 9)
 have hml : (madeCells #[.string ⟨#[]⟩] n).toList.length = n := by rw [Array.length_toList, size_madeCells]
 have hq1 := pw_cell_below hB1 hq
 have HN := Lib.hid hn1
 have HB := Lib.hid hB1
 have HQ := Lib.hid hq1
 have HML := Lib.hid hml
 clear hq hB1 hn1 hq1 hml hi0 hz0
 go_enter Tryd.func27, Tryd.ntmps27
 go_upto_region 7 with (go_at_call 41; refine HM.mono ?_; rintro e w3 ⟨rfl, rfl⟩)
 generalize hmc : (madeCells #[.string ⟨#[]⟩] n) = mc at HN HB HQ HML ⊢
 clear hmc hmk HM
 generalize hW1 : (w.alloc (.cells mc 9)) = W1 at HN HB HQ ⊢
 clear hW1
 obtain ⟨b, hb⟩ : ∃ b, b = w.heap.size := ⟨_, rfl⟩
 rw [← hb] at HN ⊢
 have HBB := Lib.hid hb
 have hnb : W1.heap[b]? = some (.cells mc.toList.toArray 9 (0, 0)) := by rw [Array.toArray_toList]; exact HN.out
 have HNB := Lib.hid hnb
 obtain ⟨W5, hcp, h5, hb5⟩ := run_copy_same z (k := min 1 n) (o := 0) (dLen := n) (dCap := n) (sLen := 1) (sCap := 1) (a := ⟨q, 0, none⟩) hnb HML.out (fun j hj => absurd hj (by omega)) rfl (by have := Nat.min_le_right 1 n; omega) (fun j hj => by
  have hj2 : j = 0 := by have := Nat.min_le_left 1 n; omega
  subst hj2
  exact HQ.out)
 have HB5 := Lib.hid (hb5 _ _ HB.out (by rw [hb]; exact Nat.le_refl _))
 have H5 := Lib.hid h5
 obtain ⟨m0, hm0⟩ : ∃ m0, m0 = min 1 n := ⟨_, rfl⟩
 have hm1 : m0 ≤ n ∧ (0 < m0 ∨ n = 0) := by rw [hm0]; omega
 rw [← hm0] at hcp H5
 simp only [Nat.zero_add] at H5
 have HM1 := Lib.hid hm1
 clear hb hnb hb5 h5 hm0 hm1 hqw
 go_wp2
 go_loopw [8] (fun v8 wr => ∃ m : Nat, v8 = .int .i64 (m : Int) ∧ Hid (m ≤ n ∧ (0 < m ∨ n = 0)) ∧ Hid (∃ cur' : List Value, wr.heap[b]? = some (.cells cur'.toArray 9 (0, 0)) ∧ cur'.length = n ∧ ∀ j, j < m → cur'[j]? = some (.string z)) ∧ Hid (Below w.heap.size w wr)) (fun v8 _ => n - (intOf v8).toNat)
 case atStart => exact ⟨m0, rfl, HM1, H5, HB5⟩
 case round =>
  clear H5 HB5 hcp HN HNB HQ
  obtain ⟨m, rfl, HM, HC, HB⟩ := hrel
  by_cases hlt : m < n
  rotate_left
  ·obtain rfl : m = n := by have := HM.out; omega
   have q1 : ¬ ((m : Int) < (m : Int)) := by omega
   have q2 : decide ((m : Int) < (m : Int)) = false := decide_eq_false q1
   go_wp2
   go_ret
   obtain ⟨cur', hc1, hc2, hc3⟩ := HC.out
   refine ⟨b, rfl, by rw [HBB.out]; exact Nat.le_refl _, .inr ⟨b, m, _, by rw [List.length_replicate], hc1, by rw [List.length_replicate]; exact Nat.le_refl _, by unfold maxLen; omega, by rw [List.size_toArray]; omega, fun j x hj t u hu => ?_⟩, HB.out⟩
   rw [List.getElem?_replicate] at hj
   split at hj
   ·cases hj
    unfold st_enc at hu
    have ht : t = 0 := by have := (List.getElem?_eq_some_iff.1 hu).1; simpa using this
    subst ht
    cases hu
    rw [Nat.mul_one, Nat.add_zero, List.getElem?_toArray]
    exact hc3 j (by assumption)
   ·cases hj
  ·have q1 : ((m : Int) < (n : Int)) := by omega
   have q2 : decide ((m : Int) < (n : Int)) = true := decide_eq_true q1
   have q3 : (m : Int) ≤ (n : Int) := by omega
   have q4 : (n = m) = False := eq_false (by omega)
   have hm0 : 0 < m := by have := HM.out; omega
   obtain ⟨cur', hc1, hc2, hc3⟩ := HC.out
   obtain ⟨W6, hcp, h6, hb6⟩ := run_copy_same (w := wr.drew) z (k := min m (n - m)) (o := m) (dLen := n - m) (dCap := n - m) (sLen := m) (sCap := n) (a := ⟨b, 0, none⟩) hc1 hc2 hc3 rfl (by have := Nat.min_le_right m (n - m); omega) (fun j hj => by
    rw [add_plain, blk_cell (show wr.drew.heap[b]? = _ from hc1), List.getElem?_toArray]
    exact hc3 j (by have := Nat.min_le_left m (n - m); omega))
   obtain ⟨d, hd⟩ : ∃ d, d = min m (n - m) := ⟨_, rfl⟩
   have hd1 : 0 < d ∧ m + d ≤ n := by rw [hd]; omega
   rw [← hd] at hcp h6
   have HCP := Lib.hid hcp
   have H6 := Lib.hid h6
   have HB6 := Lib.hid (hb6 _ _ (below_drew1 HB.out) (by rw [HBB.out]; exact Nat.le_refl _))
   have HD := Lib.hid hd1
   have hsum : wrap64 ((m : Int) + (d : Int)) = ((m + d : Nat) : Int) := by unfold wrap64; omega
   have hsum2 : IntKind.i64.wrap ((m : Int) + (d : Int)) = ((m + d : Nat) : Int) := (i64_w _).trans hsum
   have mixed : Tryd.prog.follows Departure.mixedOrders = true := by kernel_rfl
   clear hcp h6 hb6 hd1 hd hc1 hc2 hc3
   go_upto_region 9 with fail
   refine start_ (n := 10) (S := fun w' => True) (ds := []) #[false, false, false, false, false, false, false, false, false, false] (by kernel_rfl) rfl rfl (trivial) (fun hHeld => ?_)
   refine pure_ (i := 0) (N := some 38) (v := ?_) (a' := ?_) #[true, false, false, false, false, false, false, false, false, false] rfl rfl (by kernel_rfl) (fun _ _ _ h => h) (Or.inl ⟨by rfl, ?_⟩) ?_ ?_
   rotate_left
   ·intro w'
    go_simp
    with_reducible rfl
   rotate_left
   ·simp only [Act.put, List.setIfInBounds_toArray, List.set_cons_zero, List.set_cons_succ, i64_w, i32_w]
    rfl
   refine pure_ (i := 1) (N := some 39) (v := ?_) (a' := ?_) #[true, true, false, false, false, false, false, false, false, false] rfl rfl (by kernel_rfl) (fun _ _ _ h => h) (Or.inl ⟨by rfl, ?_⟩) ?_ ?_
   rotate_left
   ·intro w'
    go_simp
    with_reducible rfl
   rotate_left
   ·simp only [Act.put, List.setIfInBounds_toArray, List.set_cons_zero, List.set_cons_succ, i64_w, i32_w]
    rfl
   refine pure_ (i := 2) (N := some 40) (v := ?_) (a' := ?_) #[true, true, true, false, false, false, false, false, false, false] rfl rfl (by kernel_rfl) (fun _ _ _ h => h) (Or.inl ⟨by rfl, ?_⟩) ?_ ?_
   rotate_left
   ·intro w'
    go_simp
    with_reducible rfl
   rotate_left
   ·simp only [Act.put, List.setIfInBounds_toArray, List.set_cons_zero, List.set_cons_succ, i64_w, i32_w]
    rfl
   refine pure_ (i := 3) (N := some 41) (v := ?_) (a' := ?_) #[true, true, true, true, false, false, false, false, false, false] rfl rfl (by kernel_rfl) (fun _ _ _ h => h) (Or.inl ⟨by rfl, ?_⟩) ?_ ?_
   rotate_left
   ·intro w'
    go_simp
    with_reducible rfl
   rotate_left
   ·simp only [Act.put, List.setIfInBounds_toArray, List.set_cons_zero, List.set_cons_succ, i64_w, i32_w]
    rfl
   refine pure_ (i := 4) (N := some 42) (v := ?_) (a' := ?_) #[true, true, true, true, true, false, false, false, false, false] rfl rfl (by kernel_rfl) (fun _ _ _ h => h) (Or.inl ⟨by rfl, ?_⟩) ?_ ?_
   rotate_left
   ·intro w'
    go_simp
    with_reducible rfl
   rotate_left
   ·simp only [Act.put, List.setIfInBounds_toArray, List.set_cons_zero, List.set_cons_succ, i64_w, i32_w]
    rfl
   refine pure_ (i := 5) (N := some 43) (v := ?_) (a' := ?_) #[true, true, true, true, true, true, false, false, false, false] rfl rfl (by kernel_rfl) (fun _ _ _ h => h) (Or.inl ⟨by rfl, ?_⟩) ?_ ?_
   rotate_left
   ·intro w'
    go_simp
    with_reducible rfl
   rotate_left
   ·simp only [Act.put, List.setIfInBounds_toArray, List.set_cons_zero, List.set_cons_succ, i64_w, i32_w]
    rfl
   refine pure_ (i := 6) (N := some 44) (v := ?_) (a' := ?_) #[true, true, true, true, true, true, true, false, false, false] rfl rfl (by kernel_rfl) (fun _ _ _ h => h) (Or.inl ⟨by rfl, ?_⟩) ?_ ?_
   rotate_left
   ·intro w'
    go_simp
    with_reducible rfl
   rotate_left
   ·simp only [Act.put, List.setIfInBounds_toArray, List.set_cons_zero, List.set_cons_succ, i64_w, i32_w]
    rfl
   refine one_ (i := 7) (N := some 45) #[true, true, true, true, true, true, true, true, false, false] rfl rfl (by kernel_rfl) (by decide) (fun K hK => ?_)
   refine event_step (w1 := W6) (v := .int .i64 (d : Int)) rfl (by simp [execOp, resolve, invoke, builtin, Act.eval, HCP.out, Result.andThen]) ?_
   refine hK.out _ _ trivial (fun hHeld2 => ?_)
   clear hK K
   refine norm_ (a' := ?_) ?_ ?_
   rotate_left
   ·show Act.put _ (some 45) _ = _
    simp only [Act.put, List.setIfInBounds_toArray, List.set_cons_zero, List.set_cons_succ, i64_w, i32_w]
    rfl
   refine pure_ (i := 8) (N := some 46) (v := ?_) (a' := ?_) #[true, true, true, true, true, true, true, true, true, false] rfl rfl (by kernel_rfl) (fun _ _ _ h => h) (Or.inl ⟨by rfl, ?_⟩) ?_ ?_
   rotate_left
   ·intro w'
    go_simp
    with_reducible rfl
   rotate_left
   ·simp only [Act.put, List.setIfInBounds_toArray, List.set_cons_zero, List.set_cons_succ, i64_w, i32_w]
    rfl
   refine pure_ (i := 9) (N := some 8) (v := ?_) (a' := ?_) #[true, true, true, true, true, true, true, true, true, true] rfl rfl (by kernel_rfl) (fun _ _ _ h => h) (Or.inl ⟨by rfl, ?_⟩) ?_ ?_
   rotate_left
   ·intro w'
    go_simp
    with_reducible rfl
   rotate_left
   ·simp only [Act.put, List.setIfInBounds_toArray, List.set_cons_zero, List.set_cons_succ, i64_w, i32_w]
    rfl
   refine done_ (by kernel_rfl) ?_
   go_wp2
   go_roundw
   case rel => exact ⟨m + d, by first | rfl | go_num, Lib.hid ⟨HD.out.2, .inl (by omega)⟩, H6, HB6⟩
   case measure => have := HD.out; simp [intOf]; omega
def dv_Make (n : Int) : Dv × Int := if 0 ≤ n ∧ n ≤ 4096 then (⟨List.replicate n.toNat (dv_zeros 64), [], -1, false⟩, 0) else (dv_zero, 1)
def block_Make.f (a0 : Int) : Option (List ByteArray × (List (S60)) × Int × Bool × Int) := some (dv_five (dv_Make a0))
set_option maxHeartbeats 2000000 in
set_option maxRecDepth 100000 in
theorem block_Make.calls (a0 : Int) (r1 : List ByteArray) (r2 : List (S60)) (r3 : Int) (r4 : Bool) (r5 : Int) (w : World) (h : block_Make.f a0 = some (r1, r2, r3, r4, r5)) :
  Calls Tryd.prog 14 #[.int .i64 a0] w fun e w' => ∃ v0_ v1_ : Value, e = .returned (.tuple #[.agg #[v0_, v1_, .int .i64 r3, .bool r4], .int .i64 r5]) ∧ Kd.V Kd.string 9 w' w.heap.size (fun k_ => (w.heap.size ≤ k_)) v0_ r1 ∧ Kd.V k60 60 w' w.heap.size (fun k_ => (w.heap.size ≤ k_)) v1_ r2 ∧ Below w.heap.size w w' := by
 have hu := Tryd.underlying25
 have H := Option.some.inj h
 clear h
 unfold dv_Make dv_five at H
 have hb := below_alloc (Below.refl w.heap.size w) (.cells #[.slice none 0 0, .slice none 0 0, .int .i64 0, .bool false] 25)
 have hn := blk_new w (.cells #[.slice none 0 0, .slice none 0 0, .int .i64 0, .bool false] 25)
 have HB := Lib.hid hb
 have HN := Lib.hid hn
 clear hb hn
 by_cases c : 0 ≤ a0 ∧ a0 ≤ 4096
 rotate_left
 ·rw [if_neg c] at H
  simp only [Prod.mk.injEq] at H
  obtain ⟨rfl, rfl, rfl, rfl, rfl⟩ := H
  by_cases c1 : a0 < 0
  ·go_enter Tryd.func14, Tryd.ntmps14
   go_wp2_with (refine keys_store_row rfl 25 (.tmp 2) (.tmp 11) rfl (w.heap.size) _ #[.slice none 0 0, .slice none 0 0, .int .i64 0, .bool false] 25 rfl rfl HN.out rfl (by kernel_rfl) (by intro v hv; simp at hv; rcases hv with rfl | rfl | rfl | rfl <;> rfl) ?_)
   have o1 := setRow_heap _ (w.heap.size) _ #[.slice none 0 0, .slice none 0 0, .int .i64 0, .bool false] 25 _ HN.out
   obtain ⟨x0, x1, x2, x3⟩ := blk_cells4 o1
   refine bodyPost_ret (v := .tuple #[.agg #[.slice none 0 0, .slice none 0 0, .int .i64 0, .bool false], .int .i64 1]) (by simp [results, Tryd.results14, go_sem, x0, x1, x2, x3]) rfl ⟨_, _, rfl, Kd.V_nil _ _ _ _ _, Kd.V_nil _ _ _ _ _, keys_below_setRow HB.out (Nat.le_refl _) _⟩
  ·have c2 : 4096 < a0 := by omega
   go_enter Tryd.func14, Tryd.ntmps14
   go_wp2_with (refine keys_store_row rfl 25 (.tmp 2) (.tmp 11) rfl (w.heap.size) _ #[.slice none 0 0, .slice none 0 0, .int .i64 0, .bool false] 25 rfl rfl HN.out rfl (by kernel_rfl) (by intro v hv; simp at hv; rcases hv with rfl | rfl | rfl | rfl <;> rfl) ?_)
   have o1 := setRow_heap _ (w.heap.size) _ #[.slice none 0 0, .slice none 0 0, .int .i64 0, .bool false] 25 _ HN.out
   obtain ⟨x0, x1, x2, x3⟩ := blk_cells4 o1
   refine bodyPost_ret (v := .tuple #[.agg #[.slice none 0 0, .slice none 0 0, .int .i64 0, .bool false], .int .i64 1]) (by simp [results, Tryd.results14, go_sem, x0, x1, x2, x3]) rfl ⟨_, _, rfl, Kd.V_nil _ _ _ _ _, Kd.V_nil _ _ _ _ _, keys_below_setRow HB.out (Nat.le_refl _) _⟩
 rw [if_pos c] at H
 simp only [Prod.mk.injEq] at H
 obtain ⟨rfl, rfl, rfl, rfl, rfl⟩ := H
 obtain ⟨n, rfl⟩ : ∃ n : Nat, a0 = (n : Int) := ⟨a0.toNat, by omega⟩
 rw [Int.toNat_natCast]
 have hn4 : n ≤ 4096 := by omega
 have c1 : ¬ (n : Int) < 0 := by omega
 have c2 : ¬ (4096 : Int) < (n : Int) := by omega
 have d2 : decide ((4096 : Int) < (n : Int)) = false := decide_eq_false c2
 clear c
 have HREP : Calls Tryd.prog 26 #[.string ⟨#[0]⟩, .int .i64 64] (w.alloc (.cells #[.slice none 0 0, .slice none 0 0, .int .i64 0, .bool false] 25)) (fun e w_ => e = .returned (.string (dv_zeros 64)) ∧ _) := Tryd.strings_Repeat ⟨#[0]⟩ 64 _ (by omega) (by show 1 * 64 ≤ _; omega)
 generalize dv_zeros 64 = z at HREP ⊢
 go_enter Tryd.func14, Tryd.ntmps14
 go_wp2_with (first | (go_at_call 26; refine HREP.mono ?_; rintro e w3 ⟨rfl, hb3⟩; have HB3 := Lib.hid (below_then HB.out HB.out.size hb3); have HN3 := Lib.hid ((hb3.block _ (blk_lt HN.out)).trans HN.out); have hb4 := below_alloc (Below.refl w3.heap.size w3) (.cells #[.string z] 9); have HB4 := Lib.hid (below_then HB3.out HB3.out.size hb4); have HN4 := Lib.hid ((hb4.block _ (blk_lt HN3.out)).trans HN3.out); have HSR := Lib.hid (slices_repeat z n hn4 w3.heap.size (w3.alloc (.cells #[.string z] 9)) ((blk_cell (blk_new _ _) 0).trans rfl)); clear hb3 hb4) | (go_at_call 27; refine HSR.out.mono ?_; rintro e w5 ⟨b, rfl, hbb, ht5, hb5⟩; have HB5 := Lib.hid (below_then HB4.out HB4.out.size hb5); have HN5 := Lib.hid ((hb5.block _ (blk_lt HN4.out)).trans HN4.out); have HT5 := Lib.hid ht5; have HBB := Lib.hid hbb; clear hb5 ht5 hbb) | (refine keys_store_row rfl 25 (.tmp 2) (.tmp 17) rfl (w.heap.size) _ #[.slice (some ⟨b, 0, none⟩) n n, .slice none 0 0, .int .i64 (-1), .bool false] 25 rfl rfl HN5.out rfl (by kernel_rfl) (by intro v hv; simp at hv; rcases hv with rfl | rfl | rfl | rfl <;> rfl) ?_))
 have o1 := setRow_heap w5 (w.heap.size) _ #[.slice (some ⟨b, 0, none⟩) n n, .slice none 0 0, .int .i64 (-1), .bool false] 25 _ HN5.out
 obtain ⟨x0, x1, x2, x3⟩ := blk_cells4 o1
 have hsz := HB4.out.size
 have hbb := HBB.out
 have hne : ∀ k, (Value.slice (some ⟨b, 0, none⟩) n n).ownBlock = some k → k ≠ w.heap.size ∧ w.heap.size ≤ k := fun k hk => by
  have : b = k := by simpa [Value.ownBlock] using hk
  have hl := blk_lt HN4.out
  omega
 refine bodyPost_ret (v := .tuple #[.agg #[.slice (some ⟨b, 0, none⟩) n n, .slice none 0 0, .int .i64 (-1), .bool false], .int .i64 0]) (by simp [results, Tryd.results14, go_sem, x0, x1, x2, x3]) rfl ⟨_, _, rfl, (HT5.out.moved (fun k hk => setRow_other w5 w.heap.size k _ (hne k hk).1)).toV (d := Kd.string) (fun _ _ => rfl) (fun _ => rfl) rfl w.heap.size (fun k hk => (hne k hk).2), Kd.V_nil _ _ _ _ _, keys_below_setRow HB5.out (Nat.le_refl _) _⟩


end Go.Proofs.YthlnjbaichkipaaDoor.XR
