-- by px.py, a program of this session, over the kit's printer: functions given by hand stand beside printed ones. Lean checks all of it.
import Derived.Test.YtedbbpefogcjnaaXB0
import Derived.Test.YtedbbpefogcjnaaXB2
import Derived.Test.YtedbbpefogcjnaaGDev
import Derived.Deep.LoopGhost
import Derived.Test.YtedbbpefogcjnaaGDev
import Derived.Test.YtedbbpefogcjnaaGRep
import Derived.Lib.AppendZeros
import Derived.Deep.RegionLaw
import Derived.Test.YtedbbpefogcjnaaGKey
import Derived.Test.YtedbbpefogcjnaaGKey
namespace Go.Proofs.Ytedbbpefogcjnaa.XB
open Go.RowKit Go.Proofs.YtedbbpefogcjnaaW.PrintWords Go.Proofs.YtedbbpefogcjnaaW.PrintLast Go.Proofs.YtedbbpefogcjnaaW.PrintMore
attribute [local go_sem] max2_int min2_int max_two min_two max_three min_three max_four min_four   -- for this text's walks alone
set_option linter.unusedVariables false
set_option linter.unusedSimpArgs false

-- PXIMPORT YtedbbpefogcjnaaGDev
-- PXIMPORT Derived.Deep.LoopGhost
/-! ### block_Dev_Sync: function 24, by hand -/
def dv_apply (ws : List S39) (b : List ByteArray) : List ByteArray := ws.foldl (fun b x => b.set x.f0.toNat x.f1) b
def dv_sync (D : Dv) : Dv × Int := if (dv_asks D).2 = 0 then (⟨dv_apply (dv_asks D).1.w (dv_asks D).1.b, [], (dv_asks D).1.f, (dv_asks D).1.d⟩, 0) else dv_asks D
theorem dv_apply_len (ws : List S39) (b : List ByteArray) : (dv_apply ws b).length = b.length := by
 unfold dv_apply
 induction ws generalizing b with
 | nil => rfl
 | cons x ws ih => rw [List.foldl_cons, ih, List.length_set]
theorem dv_apply_snoc (ws : List S39) (x : S39) (b : List ByteArray) : dv_apply (ws ++ [x]) b = (dv_apply ws b).set x.f0.toNat x.f1 := by simp [dv_apply]
theorem take_rd (ws : List S39) (k : Nat) (h : k < ws.length) : ws.take (k + 1) = ws.take k ++ [rd_T39 ws (k : Int)] := by
 rw [List.take_succ_eq_append_getElem h]
 unfold rd_T39
 rw [Int.toNat_natCast, List.getD_eq_getElem?_getD, List.getElem?_eq_getElem h]; rfl
/-- A device's waits are for its blocks. -/
def dv_inw (D : Dv) : Prop := ∀ x ∈ D.w, 0 ≤ x.f0 ∧ x.f0 < (D.b.length : Int)
/-- What the loop knows of the device. -/
def DL (P : Nat → Prop) (g : Nat) (A1 : Option Addr) (c1 : Nat) (A2 : Option Addr) (c2 : Nat) (f : Int) (d : Bool) (w0 wr : World) (b : List ByteArray) (ws : List S39) : Prop :=
 wr.heap[g]? = some (.cells #[.slice A1 b.length c1, .slice A2 ws.length c2, .int .i64 f, .bool d] 50 (0, 0)) ∧ TRow st_enc 1 9 wr (.slice A1 b.length c1) b ∧ TRow wt_enc 2 39 wr (.slice A2 ws.length c2) ws ∧ (∀ k, (Value.slice A1 b.length c1).ownBlock = some k → P k) ∧ (∀ k, (Value.slice A2 ws.length c2).ownBlock = some k → P k) ∧ Mv P w0 wr
theorem DL.below {P : Nat → Prop} {g : Nat} {A1 : Option Addr} {c1 : Nat} {A2 : Option Addr} {c2 : Nat} {f : Int} {d : Bool} {w0 wr w1 : World} {b : List ByteArray} {ws : List S39} (h : DL P g A1 c1 A2 c2 f d w0 wr b ws) (hb : Below wr.heap.size wr w1) : DL P g A1 c1 A2 c2 f d w0 w1 b ws := by
 obtain ⟨h1, h2, h3, h4, h5, h6⟩ := h
 exact ⟨(hb.block g (blk_lt h1)).trans h1, h2.moved (fun k hk => hb.block k (h2.lt k hk)), h3.moved (fun k hk => hb.block k (h3.lt k hk)), h4, h5, h6.below hb⟩
/-- A block is written. -/
theorem DL.set {P : Nat → Prop} {g b1 : Nat} {c1 : Nat} {A2 : Option Addr} {c2 : Nat} {f : Int} {d : Bool} {w0 wr : World} {b : List ByteArray} {ws : List S39} (h : DL P g (some ⟨b1, 0, none⟩) c1 A2 c2 f d w0 wr b ws) {i : Nat} (hi : i < b.length) (s : ByteArray) : DL P g (some ⟨b1, 0, none⟩) c1 A2 c2 f d w0 (wr.setCell ⟨b1, i, none⟩ (.string s)) (b.set i s) ws := by
 obtain ⟨h1, h2, h3, h4, h5, h6⟩ := h
 obtain ⟨cur1, hcur1⟩ := h2.typed b1 rfl
 have hn1 : g ≠ b1 := fun e => by rw [e, hcur1] at h1; cases h1
 have ht := h2.set (fun _ => rfl) hi s
 have he : wr.setCells b1 (i * 1) (st_enc s) = wr.setCell ⟨b1, i, none⟩ (.string s) := by rw [Nat.mul_one]; rfl
 rw [he] at ht
 have hP := h4 b1 rfl
 refine ⟨?_, ?_, ?_, ?_, h5, h6.set (p := ⟨b1, i, none⟩) (.inl hP) _⟩
 ·rw [List.length_set]; exact (Below.heap_setCell _ ⟨b1, i, none⟩ _ g hn1).trans h1
 ·rw [List.length_set]; exact ht
 ·refine h3.moved (fun k hk => Below.heap_setCell _ ⟨b1, i, none⟩ _ k (fun e => ?_))
  obtain ⟨cur2, hcur2⟩ := h3.typed k hk
  simp only at e
  rw [e, hcur1] at hcur2
  cases hcur2
 ·rw [List.length_set]; exact h4
set_option maxHeartbeats 2000000 in
set_option maxRecDepth 100000 in
theorem dev_sync (P : Nat → Prop) (g : Nat) (D : Dv) (w : World) (hP : ∀ k, P k → k < w.heap.size) (hq : DQ P g w D) (hf : -1 ≤ D.f) (hf2 : D.f ≤ 9223372036854775807) (hin : dv_inw D) :
  Calls Try.prog 24 #[.pointer (some ⟨g, 0, none⟩)] w fun e w' => e = .returned (.int .i64 (dv_sync D).2) ∧ DQ P g w' (dv_sync D).1 ∧ Mv P w w' := by
 have hu := Try.underlying50
 have hu2 := Try.underlying25
 have hu3 := Try.underlying39
 have HA := dev_asks P g D w hq hf hf2
 have hin2 : dv_inw (dv_asks D).1 := by unfold dv_asks; split <;> exact hin
 clear hq
 unfold dv_sync
 generalize dv_asks D = p at HA hin2 ⊢
 obtain ⟨E, why⟩ := p
 simp only at HA hin2 ⊢
 by_cases c : why = 0
 rotate_left
 ·rw [if_neg c]
  have d : (why != 0) = true := bne_iff_ne.mpr c
  clear hin hin2
  go_enter Try.func24, Try.ntmps24
  go_wp2_with (go_at_call 35; refine HA.mono ?_; rintro e w3 ⟨rfl, hq3, hm3⟩; have HQ3 := Lib.hid hq3; have HM3 := Lib.hid hm3; clear hq3 hm3)
  go_ret
  exact ⟨rfl, HQ3.out, HM3.out⟩
 subst c
 rw [if_pos rfl]
 have HIN := Lib.hid hin2
 have HP := Lib.hid hP
 clear hin hin2 hf hf2 hP
 go_enter Try.func24, Try.ntmps24
 go_upto_block 0 with (go_at_call 35; refine HA.mono ?_; rintro e w3 ⟨rfl, hq3, hm3⟩; have HQ3 := Lib.hid hq3; have HM3 := Lib.hid hm3; obtain ⟨A1, c1, A2, c2, hrow, ht1, ht2, hp1, hp2⟩ := hq3.all; obtain ⟨g0, g1, g2, g3⟩ := blk_cells4 hrow; have HL := Lib.hid (show DL P g A1 c1 A2 c2 E.f E.d w w3 E.b E.w from ⟨hrow, ht1, ht2, hp1, hp2, hm3⟩); clear hq3 hm3 hrow ht1 ht2 hp1 hp2)
 have hPg : P g := HQ3.out.1
 clear HQ3 HM3 HA g0 g1 g2 g3
 have hmax : E.w.length ≤ 9223372036854775807 := HL.out.2.2.1.max
 go_wp2
 go_loopw [17] (fun v17 wr => ∃ (k : Nat), v17 = .int .i64 (k : Int) ∧ k ≤ E.w.length ∧ Hid (DL P g A1 c1 A2 c2 E.f E.d w wr (dv_apply (E.w.take k) E.b) E.w)) (fun v17 _ => E.w.length - (intOf v17).toNat)
 case atStart => exact ⟨0, rfl, Nat.zero_le _, HL⟩
 case round =>
  clear HL
  obtain ⟨k, rfl, hk, HL⟩ := hrel
  by_cases hlt : k < E.w.length
  rotate_left
  ·obtain rfl : k = E.w.length := by omega
   obtain ⟨h1, h2, h3, h4, h5, h6⟩ := HL.out
   rw [List.take_length] at h1 h2 h4
   have hD : DQ P g wr ⟨dv_apply E.w E.b, E.w, E.f, E.d⟩ := ⟨hPg, _, _, h1, h4, h5, h2, h3⟩
   obtain ⟨g0, g1, g2, g3⟩ := blk_cells4 h1
   have f1 := blk_frozen h1 1
   have q1 : ¬ ((E.w.length : Int) < (E.w.length : Int)) := by omega
   have HD := Lib.hid hD
   have H1 := Lib.hid h1
   have H2 := Lib.hid h2
   have H4 := Lib.hid h4
   have H6 := Lib.hid h6
   clear h1 h2 h3 h4 h5 h6 hD
   go_wp2
   go_ret
   have hs := blk_set H1.out 1 (.slice none 0 0)
   simp only [List.setIfInBounds_toArray, List.set_cons_zero, List.set_cons_succ] at hs
   refine ⟨rfl, ⟨hPg, _, _, hs, H4.out, fun k hk => by simp [Value.ownBlock] at hk, H2.out.moved (fun k hk => Below.heap_setCell _ ⟨g, 1, none⟩ _ k (fun e => ?_)), TRow.nil _ _ _ _⟩, H6.out.set (p := ⟨g, 1, none⟩) (.inl hPg) _⟩
   obtain ⟨cur, hcur⟩ := H2.out.typed k hk
   simp only at e
   have := H1.out
   rw [e, this] at hcur
   cases hcur
  ·have q1 : ((k : Int) < (E.w.length : Int)) := by omega
   have q0 : (0 : Int) ≤ (k : Int) := by omega
   obtain ⟨h1, h2, h3, h4, h5, h6⟩ := HL.out
   obtain ⟨ad, e0, hx0, hx1⟩ := at_T39 (wt_reads h3) (k : Int) q0 q1
   cases e0
   simp only [Int.toNat_natCast] at hx0 hx1
   have hxin := HIN.out (rd_T39 E.w (k : Int)) (by
    unfold rd_T39
    rw [Int.toNat_natCast, List.getD_eq_getElem?_getD, List.getElem?_eq_getElem hlt]
    exact List.getElem_mem hlt)
   have htk := take_rd E.w k hlt
   have hal := dv_apply_len (E.w.take k) E.b
   have hsn := dv_apply_snoc (E.w.take k) (rd_T39 E.w (k : Int)) E.b
   rw [← htk] at hsn
   obtain ⟨x, hx⟩ : ∃ x, x = rd_T39 E.w (k : Int) := ⟨_, rfl⟩
   rw [← hx] at hx0 hx1 hxin hsn
   obtain ⟨bb, hbb⟩ : ∃ bb, bb = dv_apply (E.w.take k) E.b := ⟨_, rfl⟩
   rw [← hbb] at h1 h2 h4 hal hsn HL
   have HSN := Lib.hid hsn
   clear hsn hbb hx htk
   have hpos : 0 < bb.length := by omega
   obtain ⟨b1, cap1, cur1, he1, _⟩ := h2.form hpos
   injection he1 with he1 _ _
   subst he1
   obtain ⟨cur, hcur⟩ := h2.typed b1 rfl
   have hn1 : g ≠ b1 := fun e => by rw [e, hcur] at h1; cases h1
   have HL2 := Lib.hid (HL.out.below (below_drew1 (below_alloc (Below.refl wr.heap.size wr) (.cells #[.int .i64 x.f0, .string x.f1] 39))))
   obtain ⟨so, hold⟩ : ∃ so, wr.cell? ⟨b1, x.f0.toNat, none⟩ = some (.string so) := by
    have hold := h2.cell (i := x.f0.toNat) (x := bb[x.f0.toNat]'(by omega)) (List.getElem?_eq_getElem (by omega)) (t := 0) (u := .string (bb[x.f0.toNat]'(by omega))) rfl
    simp only [Nat.mul_one, Nat.add_zero] at hold
    exact ⟨_, hold⟩
   have hfz := h2.frozen x.f0.toNat
   obtain ⟨g0, g1, g2, g3⟩ := blk_cells4 h1
   have hne1 : wr.heap.size ≠ g := World.new_ne wr ⟨g, 0, none⟩ g0
   have hne2 : wr.heap.size ≠ b1 := World.new_ne wr ⟨b1, _, none⟩ hold
   have y0 : (wr.alloc (.cells #[.int .i64 x.f0, .string x.f1] 39)).cell? ⟨g, 0, none⟩ = some (.slice (some ⟨b1, 0, none⟩) bb.length c1) := (World.cell?_alloc_lt _ _ _ (World.block_lt_of_cell? wr ⟨g, 0, none⟩ g0)).trans g0
   have y1 : (wr.alloc (.cells #[.int .i64 x.f0, .string x.f1] 39)).cell? ⟨b1, x.f0.toNat, none⟩ = some (.string so) := (World.cell?_alloc_lt _ _ _ (World.block_lt_of_cell? wr ⟨b1, _, none⟩ hold)).trans hold
   have y2 : (wr.alloc (.cells #[.int .i64 x.f0, .string x.f1] 39)).frozen? ⟨b1, x.f0.toNat, none⟩ = false := blk_frozen (blk_alloc hcur _) _
   have yb := blk_new wr (.cells #[.int .i64 x.f0, .string x.f1] 39)
   obtain ⟨yb0, yb1⟩ := (show (wr.alloc (.cells #[.int .i64 x.f0, .string x.f1] 39)).cell? ⟨wr.heap.size, 0, none⟩ = some (.int .i64 x.f0) ∧ (wr.alloc (.cells #[.int .i64 x.f0, .string x.f1] 39)).cell? ⟨wr.heap.size, 1, none⟩ = some (.string x.f1) from ⟨blk_cell yb 0, blk_cell yb 1⟩)
   have xq0 : 0 ≤ x.f0 := hxin.1
   have xq1 : x.f0 < (bb.length : Int) := by omega
   have mixed : Try.prog.follows Departure.mixedOrders = true := by kernel_rfl
   have HAL := Lib.hid hal
   clear hal h1 h2 h3 h4 h5 h6 hcur hfz g1 g2 g3 yb hxin
   go_upto_region 7 with fail
   generalize wr.heap.size = q at yb0 yb1 hne1 hne2 HL2 ⊢
   generalize (wr.alloc (.cells #[.int .i64 x.f0, .string x.f1] 39)) = W1 at y0 y1 y2 yb0 yb1 HL2 ⊢
   clear hx0 hx1 g0 hold HL
   refine start_ (n := 11) (S := fun w' => w'.cell? ⟨g, 0, none⟩ = some (.slice (some ⟨b1, 0, none⟩) bb.length c1) ∧ w'.cell? ⟨q, 0, none⟩ = some (.int .i64 x.f0) ∧ w'.cell? ⟨q, 1, none⟩ = some (.string x.f1)) (ds := [10]) #[false, false, false, false, false, false, false, false, false, false, false] (by kernel_rfl) rfl rfl (⟨y0, yb0, yb1⟩) (fun hHeld => ?_)
   refine pure_ (i := 0) (N := some 21) (v := ?_) (a' := ?_) #[true, false, false, false, false, false, false, false, false, false, false] rfl rfl (by kernel_rfl) (fun _ _ _ h => h) (Or.inl ⟨by rfl, ?_⟩) ?_ ?_
   rotate_left
   ·intro w'
    go_simp
    with_reducible rfl
   rotate_left
   ·simp only [Act.put, List.setIfInBounds_toArray, List.set_cons_zero, List.set_cons_succ, i64_w, i32_w]
    rfl
   refine pure_ (i := 1) (N := some 22) (v := ?_) (a' := ?_) #[true, true, false, false, false, false, false, false, false, false, false] rfl rfl (by kernel_rfl) (fun _ _ _ h => h) (Or.inl ⟨by rfl, ?_⟩) ?_ ?_
   rotate_left
   ·intro w'
    go_simp
    with_reducible rfl
   rotate_left
   ·simp only [Act.put, List.setIfInBounds_toArray, List.set_cons_zero, List.set_cons_succ, i64_w, i32_w]
    rfl
   refine pure_ (i := 2) (N := some 23) (v := ?_) (a' := ?_) #[true, true, true, false, false, false, false, false, false, false, false] rfl rfl (by kernel_rfl) (fun _ _ _ h => h) (Or.inl ⟨by rfl, ?_⟩) ?_ ?_
   rotate_left
   ·intro w'
    go_simp
    with_reducible rfl
   rotate_left
   ·simp only [Act.put, List.setIfInBounds_toArray, List.set_cons_zero, List.set_cons_succ, i64_w, i32_w]
    rfl
   refine pure_ (i := 3) (N := some 24) (v := ?_) (a' := ?_) #[true, true, true, true, false, false, false, false, false, false, false] rfl rfl (by kernel_rfl) (fun _ _ _ h => h) (Or.inl ⟨by rfl, ?_⟩) ?_ ?_
   rotate_left
   ·intro w'
    go_simp
    with_reducible rfl
   rotate_left
   ·simp only [Act.put, List.setIfInBounds_toArray, List.set_cons_zero, List.set_cons_succ, i64_w, i32_w]
    rfl
   refine take_ (i := 4) (N := some 25) (v := ?_) (a' := ?_) #[true, true, true, true, true, false, false, false, false, false, false] rfl rfl (by kernel_rfl) (fun _ _ _ h => h) (Or.inl ⟨by rfl, ?_⟩) hHeld ?_ ?_
   rotate_left
   ·rintro w' ⟨s0, s1, s2⟩
    go_simp
    with_reducible rfl
   rotate_left
   ·simp only [Act.put, List.setIfInBounds_toArray, List.set_cons_zero, List.set_cons_succ, i64_w, i32_w]
    rfl
   refine pure_ (i := 5) (N := some 26) (v := ?_) (a' := ?_) #[true, true, true, true, true, true, false, false, false, false, false] rfl rfl (by kernel_rfl) (fun _ _ _ h => h) (Or.inl ⟨by rfl, ?_⟩) ?_ ?_
   rotate_left
   ·intro w'
    go_simp
    with_reducible rfl
   rotate_left
   ·simp only [Act.put, List.setIfInBounds_toArray, List.set_cons_zero, List.set_cons_succ, i64_w, i32_w]
    rfl
   refine take_ (i := 6) (N := some 27) (v := ?_) (a' := ?_) #[true, true, true, true, true, true, true, false, false, false, false] rfl rfl (by kernel_rfl) (fun _ _ _ h => h) (Or.inl ⟨by rfl, ?_⟩) hHeld ?_ ?_
   rotate_left
   ·rintro w' ⟨s0, s1, s2⟩
    go_simp
    with_reducible rfl
   rotate_left
   ·simp only [Act.put, List.setIfInBounds_toArray, List.set_cons_zero, List.set_cons_succ, i64_w, i32_w]
    rfl
   refine pure_ (i := 7) (N := some 28) (v := ?_) (a' := ?_) #[true, true, true, true, true, true, true, true, false, false, false] rfl rfl (by kernel_rfl) (fun _ _ _ h => h) (Or.inl ⟨by rfl, ?_⟩) ?_ ?_
   rotate_left
   ·intro w'
    go_simp
    with_reducible rfl
   rotate_left
   ·simp only [Act.put, List.setIfInBounds_toArray, List.set_cons_zero, List.set_cons_succ, i64_w, i32_w]
    rfl
   refine take_ (i := 8) (N := some 29) (v := ?_) (a' := ?_) #[true, true, true, true, true, true, true, true, true, false, false] rfl rfl (by kernel_rfl) (fun _ _ _ h => h) (Or.inl ⟨by rfl, ?_⟩) hHeld ?_ ?_
   rotate_left
   ·rintro w' ⟨s0, s1, s2⟩
    go_simp
    with_reducible rfl
   rotate_left
   ·simp only [Act.put, List.setIfInBounds_toArray, List.set_cons_zero, List.set_cons_succ, i64_w, i32_w]
    rfl
   refine pure_ (i := 9) (N := some 30) (v := ?_) (a' := ?_) #[true, true, true, true, true, true, true, true, true, true, false] rfl rfl (by kernel_rfl) (fun _ _ _ h => h) (Or.inl ⟨by rfl, ?_⟩) ?_ ?_
   rotate_left
   ·intro w'
    go_simp
    with_reducible rfl
   rotate_left
   ·simp only [Act.put, List.setIfInBounds_toArray, List.set_cons_zero, List.set_cons_succ, i64_w, i32_w]
    rfl
   refine last_ (i := 10) (N := none) #[true, true, true, true, true, true, true, true, true, true, true] rfl rfl (by kernel_rfl) (by decide) (fun K hK => ?_)
   refine skip_ (w1 := ?_) (by rfl) rfl ?_ ?_
   rotate_left
   ·go_simp
    rfl
   refine hK.out _ _ ?_
   clear hK K
   refine done_ (by kernel_rfl) ?_
   have hst := HL2.out.set (i := x.f0.toNat) (by omega) x.f1
   have HL3 := Lib.hid hst
   have hlen3 : (bb.set x.f0.toNat x.f1).length = bb.length := List.length_set
   clear hst y0 y1 y2 yb0 yb1 hHeld HL2
   go_wp2
   go_roundw
   case rel => exact ⟨k + 1, by first | rfl | go_num, by omega, by rw [HSN.out]; exact HL3⟩
   case measure => simp [intOf]; omega

/-! ### bits_Mul32: function 46 -/
def bits_Mul32.f (a0 : Int) (a1 : Int) : Option (Int × Int) := some (((IntKind.u64.wrap ((IntKind.u64.wrap (a0)) * (IntKind.u64.wrap (a1)))) / 4294967296) % 4294967296, (IntKind.u64.wrap ((IntKind.u64.wrap (a0)) * (IntKind.u64.wrap (a1)))) % 4294967296)
set_option maxHeartbeats 8000000 in
set_option maxRecDepth 100000 in
theorem bits_Mul32.calls (a0 : Int) (a1 : Int) (r1 : Int) (r2 : Int) (w : World) (h : bits_Mul32.f a0 a1 = some (r1, r2)) :
  Calls Try.prog 46 #[.int .u32 a0, .int .u32 a1] w fun e w' => e = .returned (.tuple #[.int .u32 r1, .int .u32 r2]) ∧ Drawn0 w w' := by
 have H : (some (((IntKind.u64.wrap ((IntKind.u64.wrap (a0)) * (IntKind.u64.wrap (a1)))) / 4294967296) % 4294967296, (IntKind.u64.wrap ((IntKind.u64.wrap (a0)) * (IntKind.u64.wrap (a1)))) % 4294967296)) = some (r1, r2) := h
 clear h
 simp only [Option.some.injEq, Prod.mk.injEq] at H
 obtain ⟨rfl, rfl⟩ := H
 go_enter Try.func46, Try.ntmps46
 go_wp2
 go_ret2
 exact ⟨by first | rfl | (simp; done) | (simp [*]; done), by repeat (first | exact Drawn0.refl _ | apply Drawn0.step)⟩

/-! ### bits_Mul64: function 47 -/
def bits_Mul64.f (a0 : Int) (a1 : Int) : Option (Int × Int) := some (IntKind.u64.wrap ((IntKind.u64.wrap ((IntKind.u64.wrap ((a0 / 4294967296) * (a1 / 4294967296))) + ((IntKind.u64.wrap ((IntKind.u64.wrap ((a0 / 4294967296) * (Go.bits .and .u64 a1 4294967295))) + ((IntKind.u64.wrap ((Go.bits .and .u64 a0 4294967295) * (Go.bits .and .u64 a1 4294967295))) / 4294967296))) / 4294967296))) + ((IntKind.u64.wrap ((Go.bits .and .u64 (IntKind.u64.wrap ((IntKind.u64.wrap ((a0 / 4294967296) * (Go.bits .and .u64 a1 4294967295))) + ((IntKind.u64.wrap ((Go.bits .and .u64 a0 4294967295) * (Go.bits .and .u64 a1 4294967295))) / 4294967296))) 4294967295) + (IntKind.u64.wrap ((Go.bits .and .u64 a0 4294967295) * (a1 / 4294967296))))) / 4294967296)), IntKind.u64.wrap (a0 * a1))
set_option maxHeartbeats 8000000 in
set_option maxRecDepth 100000 in
theorem bits_Mul64.calls (a0 : Int) (a1 : Int) (r1 : Int) (r2 : Int) (w : World) (h : bits_Mul64.f a0 a1 = some (r1, r2)) :
  Calls Try.prog 47 #[.int .u64 a0, .int .u64 a1] w fun e w' => e = .returned (.tuple #[.int .u64 r1, .int .u64 r2]) ∧ Drawn0 w w' := by
 have H : (some (IntKind.u64.wrap ((IntKind.u64.wrap ((IntKind.u64.wrap ((a0 / 4294967296) * (a1 / 4294967296))) + ((IntKind.u64.wrap ((IntKind.u64.wrap ((a0 / 4294967296) * (Go.bits .and .u64 a1 4294967295))) + ((IntKind.u64.wrap ((Go.bits .and .u64 a0 4294967295) * (Go.bits .and .u64 a1 4294967295))) / 4294967296))) / 4294967296))) + ((IntKind.u64.wrap ((Go.bits .and .u64 (IntKind.u64.wrap ((IntKind.u64.wrap ((a0 / 4294967296) * (Go.bits .and .u64 a1 4294967295))) + ((IntKind.u64.wrap ((Go.bits .and .u64 a0 4294967295) * (Go.bits .and .u64 a1 4294967295))) / 4294967296))) 4294967295) + (IntKind.u64.wrap ((Go.bits .and .u64 a0 4294967295) * (a1 / 4294967296))))) / 4294967296)), IntKind.u64.wrap (a0 * a1))) = some (r1, r2) := h
 clear h
 simp only [Option.some.injEq, Prod.mk.injEq] at H
 obtain ⟨rfl, rfl⟩ := H
 go_enter Try.func47, Try.ntmps47
 go_wp2
 go_ret2
 exact ⟨by first | rfl | (simp; done) | (simp [*]; done), by repeat (first | exact Drawn0.refl _ | apply Drawn0.step)⟩

/-! ### bits_Mul: function 40 -/
def bits_Mul.f (a0 : Int) (a1 : Int) : Option (Int × Int) := (bits_Mul64.f a0 a1).bind fun bt101 => (some (bt101.1, bt101.2))
set_option maxHeartbeats 8000000 in
set_option maxRecDepth 100000 in
theorem bits_Mul.calls (a0 : Int) (a1 : Int) (r1 : Int) (r2 : Int) (w : World) (h : bits_Mul.f a0 a1 = some (r1, r2)) :
  Calls Try.prog 40 #[.int .u64 a0, .int .u64 a1] w fun e w' => e = .returned (.tuple #[.int .u64 r1, .int .u64 r2]) ∧ Drawn0 w w' := by
 have H : ((bits_Mul64.f a0 a1).bind fun bt101 => (some (bt101.1, bt101.2))) = some (r1, r2) := h
 clear h
 replace H := Option.bind_eq_some_iff.mp H
 obtain ⟨⟨t101, t102⟩, A30, H⟩ := H
 replace H : (some (t101, t102)) = some (r1, r2) := H
 have A3 := Aside0.mk A30
 clear A30
 simp only [Option.some.injEq, Prod.mk.injEq] at H
 obtain ⟨rfl, rfl⟩ := H
 go_enter Try.func40, Try.ntmps40
 go_wp2_with (first | ((with_reducible refine gate_callee (f := 47) rfl ?_); refine goesL_ (some 25) rfl rfl Try.func47 (by kernel_rfl) rfl #[.int .u64 a0, .int .u64 a1] rfl (by (try simp only [List.map_toArray, List.map_cons, List.map_nil]); first | done | rfl | (simp only [List.length_drop, List.length_take]; rfl)) ?_; (with_reducible refine (bits_Mul64.calls a0 a1 t101 t102 _ A3.out).mono ?_); rintro e w' ⟨rfl, ⟨nd, rfl⟩⟩; refine ⟨_, rfl, ?_⟩))
 go_ret2
 exact ⟨by first | rfl | (simp; done) | (simp [*]; done), by repeat (first | exact Drawn0.refl _ | apply Drawn0.step)⟩

/-! ### stringslite_HasPrefix: function 48 -/
def stringslite_HasPrefix.f (a0 : ByteArray) (a1 : ByteArray) : Option (Bool) := if (a0.size : Int) ≥ (a1.size : Int) then (if 0 ≤ (a1.size : Int) then (if (a1.size : Int) ≤ (a0.size : Int) then (some ((a0.extract 0 ((a1.size : Int) : Int).toNat).toList == a1.toList)) else (none)) else (none)) else (some false)
set_option maxHeartbeats 8000000 in
set_option maxRecDepth 100000 in
theorem stringslite_HasPrefix.calls (a0 : ByteArray) (a1 : ByteArray) (r : Bool) (w : World) (h : stringslite_HasPrefix.f a0 a1 = some r) :
  Calls Try.prog 48 #[.string a0, .string a1] w fun e w' => e = .returned (.bool r) ∧ Drawn0 w w' := by
 have H : (if (a0.size : Int) ≥ (a1.size : Int) then (if 0 ≤ (a1.size : Int) then (if (a1.size : Int) ≤ (a0.size : Int) then (some ((a0.extract 0 ((a1.size : Int) : Int).toNat).toList == a1.toList)) else (none)) else (none)) else (some false)) = some r := h
 clear h
 by_cases c3 : (a0.size : Int) ≥ (a1.size : Int)
 ·rw [if_pos c3] at H
  have c3b0 : decide ((a1.size : Int) ≤ (a0.size : Int)) = true := decide_eq_true c3
  have c3b1 : decide (a1.size ≤ a0.size) = true := decide_eq_true (Int.ofNat_le.mp c3)
  clear c3
  by_cases c4 : 0 ≤ (a1.size : Int)
  ·rw [if_pos c4] at H
   have c4b0 := eq_true c4
   have c4b1 : decide (0 ≤ (a1.size : Int)) = true := decide_eq_true c4
   clear c4
   by_cases c5 : (a1.size : Int) ≤ (a0.size : Int)
   ·rw [if_pos c5] at H
    have c5b0 := eq_true c5
    have c5b1 : decide ((a1.size : Int) ≤ (a0.size : Int)) = true := decide_eq_true c5
    clear c5
    obtain rfl := Option.some.inj H
    go_enter Try.func48, Try.ntmps48
    go_wp2
    go_ret
    exact ⟨by first | rfl | (simp; done) | (simp [*]; done), by repeat (first | exact Drawn0.refl _ | apply Drawn0.step)⟩
   ·rw [if_neg c5] at H
    exact absurd H (by simp)
  ·rw [if_neg c4] at H
   exact absurd H (by simp)
 ·rw [if_neg c3] at H
  have c3b0 : decide ((a1.size : Int) ≤ (a0.size : Int)) = false := decide_eq_false c3
  have c3b1 : decide (a1.size ≤ a0.size) = false := decide_eq_false (fun h => c3 (Int.ofNat_le.mpr h))
  clear c3
  obtain rfl := Option.some.inj H
  go_enter Try.func48, Try.ntmps48
  go_wp2
  go_ret
  exact ⟨by first | rfl | (simp; done) | (simp [*]; done), by repeat (first | exact Drawn0.refl _ | apply Drawn0.step)⟩

/-! ### strings_HasPrefix: function 41 -/
def strings_HasPrefix.f (a0 : ByteArray) (a1 : ByteArray) : Option (Bool) := (stringslite_HasPrefix.f a0 a1).bind fun t103 => (some t103)
set_option maxHeartbeats 8000000 in
set_option maxRecDepth 100000 in
theorem strings_HasPrefix.calls (a0 : ByteArray) (a1 : ByteArray) (r : Bool) (w : World) (h : strings_HasPrefix.f a0 a1 = some r) :
  Calls Try.prog 41 #[.string a0, .string a1] w fun e w' => e = .returned (.bool r) ∧ Drawn0 w w' := by
 have H : ((stringslite_HasPrefix.f a0 a1).bind fun t103 => (some t103)) = some r := h
 clear h
 replace H := Option.bind_eq_some_iff.mp H
 obtain ⟨t103, A30, H⟩ := H
 replace H : (some t103) = some r := H
 have A3 := Aside0.mk A30
 clear A30
 obtain rfl := Option.some.inj H
 go_enter Try.func41, Try.ntmps41
 go_wp2_with (first | ((with_reducible refine gate_callee (f := 48) rfl ?_); refine goesL_ (some 7) rfl rfl Try.func48 (by kernel_rfl) rfl #[.string a0, .string a1] rfl (by (try simp only [List.map_toArray, List.map_cons, List.map_nil]); first | done | rfl | (simp only [List.length_drop, List.length_take]; rfl)) ?_; (with_reducible refine (stringslite_HasPrefix.calls a0 a1 t103 _ A3.out).mono ?_); rintro e w' ⟨rfl, ⟨nd, rfl⟩⟩; refine ⟨_, rfl, ?_⟩))
 go_ret
 exact ⟨by first | rfl | (simp; done) | (simp [*]; done), by repeat (first | exact Drawn0.refl _ | apply Drawn0.step)⟩

-- NOT PRINTED: function 51 (abi_NoEscape)

-- NOT PRINTED: function 49 (strings_Builder_copyCheck)

-- NOT PRINTED: function 52 (bytealg_MakeNoZero)

-- NOT PRINTED: function 50 (strings_Builder_grow)

-- NOT PRINTED: function 42 (strings_Builder_Grow)

-- NOT PRINTED: function 43 (strings_Builder_WriteString)

-- NOT PRINTED: function 44 (strings_Builder_Len)

-- NOT PRINTED: function 45 (strings_Builder_String)

-- NOT PRINTED: function 32 (strings_Repeat)

-- PXIMPORT YtedbbpefogcjnaaGDev
-- PXIMPORT YtedbbpefogcjnaaGRep
-- PXIMPORT Derived.Lib.AppendZeros
-- PXIMPORT Derived.Deep.RegionLaw
/-! ### block_Dev_Write: function 26, by hand -/
def dv_zeros (n : Nat) : ByteArray := ⟨(Lib.repeatL [0] n).toArray⟩
theorem dv_zeros_size (n : Nat) : (dv_zeros n).size = n := by
 show (Lib.repeatL [0] n).toArray.size = n
 rw [List.size_toArray, Lib.repeatL_length]
 simp
def dv_write (D : Dv) (at_ : Int) (s : ByteArray) : Dv × Int := if dv_there D at_ = true then if 64 < s.size then (D, 12) else if D.w.length = 4096 then (D, 8) else dv_asks ⟨D.b, D.w ++ [⟨at_, s ++ dv_zeros (64 - s.size)⟩], D.f, D.d⟩ else (D, 1)
theorem DQ.pushed {P : Nat → Prop} {g : Nat} {w w1 : World} {D : Dv} {v1 v2 v3 : Value} {l : List S39} (hPg : P g) (hrow : w.heap[g]? = some (.cells #[v1, v2, .int .i64 D.f, .bool D.d] 50 (0, 0))) (h1 : ∀ k, v1.ownBlock = some k → P k) (h2 : ∀ k, v2.ownBlock = some k → P k) (ht1 : TRow st_enc 1 9 w v1 D.b) (ht2 : TRow wt_enc 2 39 w v2 D.w)
  (hgr : w.grownBy w1 v2.ownBlock) (hat : v3.ownBlock = v2.ownBlock ∨ v3.ownBlock = some w.heap.size) (ht : TRow wt_enc 2 39 w1 v3 l) {n : Nat} (hn : n ≤ w.heap.size) :
  DQ (fun k => P k ∨ (n ≤ k ∧ k < w1.heap.size)) g (w1.setCell ⟨g, 1, none⟩ v3) ⟨D.b, l, D.f, D.d⟩ := by
 have hg1 : w1.heap[g]? = some (.cells #[v1, v2, .int .i64 D.f, .bool D.d] 50 (0, 0)) := (hgr.block g (blk_lt hrow) (fun e => by
  obtain ⟨cur, hcur⟩ := ht2.typed g e.symm
  rw [hrow] at hcur
  cases hcur)).trans hrow
 have hs := blk_set hg1 1 v3
 simp only [List.setIfInBounds_toArray, List.set_cons_zero, List.set_cons_succ] at hs
 refine ⟨.inl hPg, v1, v3, hs, fun k hk => .inl (h1 k hk), fun k hk => ?_, ht1.moved (fun k hk => ?_), ht.moved (fun k hk => ?_)⟩
 ·rcases hat with h | h
  ·exact .inl (h2 k (h ▸ hk))
  ·have hlt := ht.lt k hk
   rw [h] at hk
   injection hk with hk
   exact .inr ⟨by omega, hlt⟩
 ·have hne : k ≠ g := fun e => by
   obtain ⟨cur, hcur⟩ := ht1.typed k hk
   rw [e, hrow] at hcur
   cases hcur
  rw [Below.heap_setCell _ ⟨g, 1, none⟩ _ k hne]
  exact hgr.block k (ht1.lt k hk) (fun e => by
   obtain ⟨cur, hcur⟩ := ht1.typed k hk
   obtain ⟨cur2, hcur2⟩ := ht2.typed k e.symm
   rw [hcur] at hcur2
   cases hcur2)
 ·refine Below.heap_setCell _ ⟨g, 1, none⟩ _ k (fun e => ?_)
  obtain ⟨cur, hcur⟩ := ht.typed k hk
  simp only at e
  rw [e, hg1] at hcur
  cases hcur
set_option maxHeartbeats 2000000 in
set_option maxRecDepth 100000 in
theorem dev_write (P : Nat → Prop) (g : Nat) (D : Dv) (at_ : Int) (s : ByteArray) (w : World) (hP : ∀ k, P k → k < w.heap.size) (hq : DQ P g w D) (hf : -1 ≤ D.f) (hf2 : D.f ≤ 9223372036854775807) (hL : D.w.length < 5864062014805) :
  Calls Try.prog 26 #[.pointer (some ⟨g, 0, none⟩), .int .i64 at_, .string s] w fun e w' => e = .returned (.int .i64 (dv_write D at_ s).2) ∧ DQ (fun k => P k ∨ (w.heap.size ≤ k ∧ k < w'.heap.size)) g w' (dv_write D at_ s).1 ∧ Mv P w w' := by
 have hu := Try.underlying50
 have hu2 := Try.underlying25
 have hu3 := Try.underlying39
 have HT := dev_there g D at_ w hq.toR
 have hq' := hq.mono (S := fun k => P k ∨ (w.heap.size ≤ k ∧ k < w.heap.size)) (fun k h => .inl h)
 have HQ := Lib.hid hq
 have HQ' := Lib.hid hq'
 unfold dv_write
 obtain ⟨A1, c1, A2, c2, hrow, ht1, ht2, hp1, hp2⟩ := hq.all
 obtain ⟨g0, g1, g2, g3⟩ := blk_cells4 hrow
 have hPg := hq.1
 have HROW := Lib.hid hrow
 have HT1 := Lib.hid ht1
 have HT2 := Lib.hid ht2
 have HP1 := Lib.hid hp1
 have HP2 := Lib.hid hp2
 have HP := Lib.hid hP
 clear hq hq' hrow ht1 ht2 hp1 hp2 hP
 generalize dv_there D at_ = r at HT ⊢
 cases r with
 | false =>
  rw [if_neg (by decide)]
  go_enter Try.func26, Try.ntmps26
  go_wp2_with (first | (go_at_call 36; refine HT.mono ?_; rintro e w3 ⟨rfl, rfl⟩))
  go_ret
  exact ⟨rfl, HQ'.out, Mv.refl _ _⟩
 | true =>
  rw [if_pos rfl]
  by_cases c1_ : 64 < s.size
  ·rw [if_pos c1_]
   have d1 : decide ((64 : Int) < (s.size : Int)) = true := decide_eq_true (by omega)
   have d2 : (64 : Int) < (s.size : Int) := by omega
   go_enter Try.func26, Try.ntmps26
   go_wp2_with (first | (go_at_call 36; refine HT.mono ?_; rintro e w3 ⟨rfl, rfl⟩))
   go_ret
   exact ⟨rfl, HQ'.out, Mv.refl _ _⟩
  rw [if_neg c1_]
  have d1 : decide ((64 : Int) < (s.size : Int)) = false := decide_eq_false (by omega)
  have d2 : ¬ (64 : Int) < (s.size : Int) := by omega
  have hsz : s.size ≤ 64 := by omega
  clear c1_
  by_cases c2_ : D.w.length = 4096
  ·rw [if_pos c2_]
   have e1 : ((D.w.length : Int) == 4096) = true := beq_iff_eq.mpr (by omega)
   have e2 : ((D.w.length : Int) = 4096) = True := eq_true (by omega)
   clear c2_
   go_enter Try.func26, Try.ntmps26
   go_wp2_with (first | (go_at_call 36; refine HT.mono ?_; rintro e w3 ⟨rfl, rfl⟩))
   go_ret
   exact ⟨rfl, HQ'.out, Mv.refl _ _⟩
  rw [if_neg c2_]
  have e1 : ((D.w.length : Int) == 4096) = false := beq_eq_false_iff_ne.mpr (by omega)
  have e2 : ((D.w.length : Int) = 4096) = False := eq_false (by omega)
  clear c2_
  generalize hsp : s ++ dv_zeros (64 - s.size) = sp
  have hal : (D.w ++ [(⟨at_, sp⟩ : S39)]).length = D.w.length + 1 := by simp
  generalize hl2 : D.w ++ [(⟨at_, sp⟩ : S39)] = l2 at hal
  generalize hpp : dv_asks ⟨D.b, l2, D.f, D.d⟩ = p
  obtain ⟨E, why⟩ := p
  simp only
  have HSP := Lib.hid hsp
  have HL2 := Lib.hid hl2
  have HPP := Lib.hid hpp
  have HAL := Lib.hid hal
  clear hsp hl2 hpp hal
  go_enter Try.func26, Try.ntmps26
  go_upto_region 7 with (first | (go_at_call 36; refine HT.mono ?_; rintro e w3 ⟨rfl, rfl⟩))
  have mixed : Try.prog.follows Departure.mixedOrders = true := by kernel_rfl
  have hw1 : wrap64 (64 - (s.size : Int)) = ((64 - s.size : Nat) : Int) := by unfold wrap64; omega
  have hw2 : IntKind.i64.wrap (64 - (s.size : Int)) = ((64 - s.size : Nat) : Int) := (i64_w _).trans hw1
  have hw3 : ¬ 9223372036854775807 < s.size + (dv_zeros (64 - s.size)).size := by rw [dv_zeros_size]; omega
  clear d1 d2 e1 e2
  refine start_ (n := 20) (S := fun w' => w'.cell? ⟨g, 1, none⟩ = some (.slice A2 D.w.length c2)) (ds := [19]) #[false, false, false, false, false, false, false, false, false, false, false, false, false, false, false, false, false, false, false, false] (by kernel_rfl) rfl rfl (g1) (fun hHeld => ?_)
  refine pure_ (i := 0) (N := some 24) (v := ?_) (a' := ?_) #[true, false, false, false, false, false, false, false, false, false, false, false, false, false, false, false, false, false, false, false] rfl rfl (by kernel_rfl) (fun _ _ _ h => h) (Or.inl ⟨by rfl, ?_⟩) ?_ ?_
  rotate_left
  ·intro w'
   go_simp
   with_reducible rfl
  rotate_left
  ·simp only [Act.put, List.setIfInBounds_toArray, List.set_cons_zero, List.set_cons_succ, i64_w, i32_w]
   rfl
  refine pure_ (i := 1) (N := some 25) (v := ?_) (a' := ?_) #[true, true, false, false, false, false, false, false, false, false, false, false, false, false, false, false, false, false, false, false] rfl rfl (by kernel_rfl) (fun _ _ _ h => h) (Or.inl ⟨by rfl, ?_⟩) ?_ ?_
  rotate_left
  ·intro w'
   go_simp
   with_reducible rfl
  rotate_left
  ·simp only [Act.put, List.setIfInBounds_toArray, List.set_cons_zero, List.set_cons_succ, i64_w, i32_w]
   rfl
  refine pure_ (i := 2) (N := some 26) (v := ?_) (a' := ?_) #[true, true, true, false, false, false, false, false, false, false, false, false, false, false, false, false, false, false, false, false] rfl rfl (by kernel_rfl) (fun _ _ _ h => h) (Or.inl ⟨by rfl, ?_⟩) ?_ ?_
  rotate_left
  ·intro w'
   go_simp
   with_reducible rfl
  rotate_left
  ·simp only [Act.put, List.setIfInBounds_toArray, List.set_cons_zero, List.set_cons_succ, i64_w, i32_w]
   rfl
  refine pure_ (i := 3) (N := some 27) (v := ?_) (a' := ?_) #[true, true, true, true, false, false, false, false, false, false, false, false, false, false, false, false, false, false, false, false] rfl rfl (by kernel_rfl) (fun _ _ _ h => h) (Or.inl ⟨by rfl, ?_⟩) ?_ ?_
  rotate_left
  ·intro w'
   go_simp
   with_reducible rfl
  rotate_left
  ·simp only [Act.put, List.setIfInBounds_toArray, List.set_cons_zero, List.set_cons_succ, i64_w, i32_w]
   rfl
  refine pure_ (i := 4) (N := some 28) (v := ?_) (a' := ?_) #[true, true, true, true, true, false, false, false, false, false, false, false, false, false, false, false, false, false, false, false] rfl rfl (by kernel_rfl) (fun _ _ _ h => h) (Or.inl ⟨by rfl, ?_⟩) ?_ ?_
  rotate_left
  ·intro w'
   go_simp
   with_reducible rfl
  rotate_left
  ·simp only [Act.put, List.setIfInBounds_toArray, List.set_cons_zero, List.set_cons_succ, i64_w, i32_w]
   rfl
  refine take_ (i := 5) (N := some 29) (v := ?_) (a' := ?_) #[true, true, true, true, true, true, false, false, false, false, false, false, false, false, false, false, false, false, false, false] rfl rfl (by kernel_rfl) (fun _ _ _ h => h) (Or.inl ⟨by rfl, ?_⟩) hHeld ?_ ?_
  rotate_left
  ·rintro w' s0
   go_simp
   with_reducible rfl
  rotate_left
  ·simp only [Act.put, List.setIfInBounds_toArray, List.set_cons_zero, List.set_cons_succ, i64_w, i32_w]
   rfl
  refine pure_ (i := 6) (N := some 30) (v := ?_) (a' := ?_) #[true, true, true, true, true, true, true, false, false, false, false, false, false, false, false, false, false, false, false, false] rfl rfl (by kernel_rfl) (fun _ _ _ h => h) (Or.inl ⟨by rfl, ?_⟩) ?_ ?_
  rotate_left
  ·intro w'
   go_simp
   with_reducible rfl
  rotate_left
  ·simp only [Act.put, List.setIfInBounds_toArray, List.set_cons_zero, List.set_cons_succ, i64_w, i32_w]
   rfl
  refine pure_ (i := 7) (N := some 31) (v := ?_) (a' := ?_) #[true, true, true, true, true, true, true, true, false, false, false, false, false, false, false, false, false, false, false, false] rfl rfl (by kernel_rfl) (fun _ _ _ h => h) (Or.inl ⟨by rfl, ?_⟩) ?_ ?_
  rotate_left
  ·intro w'
   go_simp
   with_reducible rfl
  rotate_left
  ·simp only [Act.put, List.setIfInBounds_toArray, List.set_cons_zero, List.set_cons_succ, i64_w, i32_w]
   rfl
  refine pure_ (i := 8) (N := some 32) (v := ?_) (a' := ?_) #[true, true, true, true, true, true, true, true, true, false, false, false, false, false, false, false, false, false, false, false] rfl rfl (by kernel_rfl) (fun _ _ _ h => h) (Or.inl ⟨by rfl, ?_⟩) ?_ ?_
  rotate_left
  ·intro w'
   go_simp
   with_reducible rfl
  rotate_left
  ·simp only [Act.put, List.setIfInBounds_toArray, List.set_cons_zero, List.set_cons_succ, i64_w, i32_w]
   rfl
  refine pure_ (i := 9) (N := some 33) (v := ?_) (a' := ?_) #[true, true, true, true, true, true, true, true, true, true, false, false, false, false, false, false, false, false, false, false] rfl rfl (by kernel_rfl) (fun _ _ _ h => h) (Or.inl ⟨by rfl, ?_⟩) ?_ ?_
  rotate_left
  ·intro w'
   go_simp
   with_reducible rfl
  rotate_left
  ·simp only [Act.put, List.setIfInBounds_toArray, List.set_cons_zero, List.set_cons_succ, i64_w, i32_w]
   rfl
  refine pure_ (i := 10) (N := some 34) (v := ?_) (a' := ?_) #[true, true, true, true, true, true, true, true, true, true, true, false, false, false, false, false, false, false, false, false] rfl rfl (by kernel_rfl) (fun _ _ _ h => h) (Or.inl ⟨by rfl, ?_⟩) ?_ ?_
  rotate_left
  ·intro w'
   go_simp
   with_reducible rfl
  rotate_left
  ·simp only [Act.put, List.setIfInBounds_toArray, List.set_cons_zero, List.set_cons_succ, i64_w, i32_w]
   rfl
  refine one_ (i := 11) (N := some 35) #[true, true, true, true, true, true, true, true, true, true, true, true, false, false, false, false, false, false, false, false] rfl rfl (by kernel_rfl) (by decide) (fun K hK => ?_)
  refine call_ 32 #[.string ⟨#[0]⟩, .int .i64 ((64 - s.size : Nat) : Int)] rfl rfl (by go_simp) ?_
  refine (show Calls Try.prog 32 #[.string ⟨#[0]⟩, .int .i64 ((64 - s.size : Nat) : Int)] _ (fun e w_ => e = .returned (.string (dv_zeros (64 - s.size))) ∧ _) from Try.strings_Repeat ⟨#[0]⟩ (64 - s.size) _ (by omega) (by show 1 * (64 - s.size) ≤ _; omega)).mono ?_
  rintro e w4 ⟨rfl, hb4⟩
  refine ⟨_, rfl, ?_⟩
  refine hK.out _ _ (pw_cell_below hb4 hHeld) (fun hHeld2 => ?_)
  clear hK K
  refine norm_ (a' := ?_) ?_ ?_
  rotate_left
  ·show Act.put _ (some 35) _ = _
   simp only [Act.put, List.setIfInBounds_toArray, List.set_cons_zero, List.set_cons_succ, i64_w, i32_w]
   rfl
  refine pure_ (i := 12) (N := some 36) (v := ?_) (a' := ?_) #[true, true, true, true, true, true, true, true, true, true, true, true, true, false, false, false, false, false, false, false] rfl rfl (by kernel_rfl) (fun _ _ _ h => h) (Or.inl ⟨by rfl, ?_⟩) ?_ ?_
  rotate_left
  ·intro w'
   go_simp
   with_reducible rfl
  rotate_left
  ·simp only [Act.put, List.setIfInBounds_toArray, List.set_cons_zero, List.set_cons_succ, i64_w, i32_w]
   rfl
  refine pure_ (i := 13) (N := some 37) (v := ?_) (a' := ?_) #[true, true, true, true, true, true, true, true, true, true, true, true, true, true, false, false, false, false, false, false] rfl rfl (by kernel_rfl) (fun _ _ _ h => h) (Or.inl ⟨by rfl, ?_⟩) ?_ ?_
  rotate_left
  ·intro w'
   go_simp
   with_reducible rfl
  rotate_left
  ·simp only [Act.put, List.setIfInBounds_toArray, List.set_cons_zero, List.set_cons_succ, i64_w, i32_w]
   rfl
  refine one_ (i := 14) (N := some 38) #[true, true, true, true, true, true, true, true, true, true, true, true, true, true, true, false, false, false, false, false] rfl rfl (by kernel_rfl) (by decide) (fun K hK => ?_)
  rw [HSP.out]
  refine event_step (w1 := w4.alloc (.cells #[.int .i64 at_, .string sp] 39)) (v := .slice (some ⟨w4.heap.size, 0, none⟩) 1 1) rfl (by go_simp) ?_
  have hb5 := below_alloc (Below.refl w4.heap.size w4) (.cells #[.int .i64 at_, .string sp] 39)
  refine hK.out _ _ (pw_cell_below hb5 hHeld2) (fun hHeld3 => ?_)
  clear hK K
  refine norm_ (a' := ?_) ?_ ?_
  rotate_left
  ·show Act.put _ (some 38) _ = _
   simp only [Act.put, List.setIfInBounds_toArray, List.set_cons_zero, List.set_cons_succ, i64_w, i32_w]
   rfl
  have hnew := blk_new w4 (.cells #[.int .i64 at_, .string sp] 39)
  have hb45 : Below w3.heap.size w3 (w4.alloc (.cells #[.int .i64 at_, .string sp] 39)) := below_then (below_then (below_drew1 (Below.refl _ w3)) (Nat.le_refl _) hb4) (below_then (below_drew1 (Below.refl _ w3)) (Nat.le_refl _) hb4).size hb5
  generalize hw5 : (w4.alloc (.cells #[.int .i64 at_, .string sp] 39)) = w5 at hnew hb45 hHeld3 ⊢
  have hs45 : w4.heap.size < w5.heap.size := blk_lt hnew
  generalize w4.heap.size = q at hnew hs45 ⊢
  clear hHeld hHeld2 hb4 hb5 hw5 w4
  have hrow5 := (hb45.block g (blk_lt HROW.out)).trans HROW.out
  have ht1 : TRow st_enc 1 9 w5 (.slice A1 D.b.length c1) D.b := HT1.out.moved (fun k hk => hb45.block k (HT1.out.lt k hk))
  have ht2 : TRow wt_enc 2 39 w5 (.slice A2 D.w.length c2) D.w := HT2.out.moved (fun k hk => hb45.block k (HT2.out.lt k hk))
  obtain ⟨i0, hi0, hz0⟩ := info_parts info39
  obtain ⟨v6, w6, hrun, ht6, hgr6, hat6⟩ := run_append_trow (P := Try.prog) (T := 23) (ty := 23) (enc := wt_enc) (sz := 2) Try.underlying23 hi0 hz0.1 hz0.2.1 rfl (by rw [hz0.2.2]; decide) (fun _ => rfl) (fun y u hu => by simp [wt_enc] at hu; rcases hu with rfl | rfl <;> rfl) ht2 ⟨at_, sp⟩ q (fun t u hu => by
   rw [blk_cell hnew, ← hu]
   unfold wt_enc
   rw [List.getElem?_toArray]) (by rw [hz0.2.2]; omega)
  have hpq := DQ.pushed (n := w3.heap.size) hPg hrow5 HP1.out HP2.out ht1 ht2 hgr6 hat6 ht6 hb45.size
  have hne6 : some g ≠ (Value.slice A2 D.w.length c2).ownBlock := fun e => by
   obtain ⟨cur, hcur⟩ := ht2.typed g e.symm
   rw [hrow5] at hcur
   cases hcur
  have hrow6 := blk_grown hrow5 hgr6 hne6
  obtain ⟨y0, y1, y2, y3⟩ := blk_cells4 hrow6
  have f1 := blk_frozen hrow6 1
  have hm6 : Mv P w3 w6 := (Mv.of_below hb45 P).grown hgr6 (fun k hk => .inl (HP2.out k hk))
  have hm7 := hm6.set (p := ⟨g, 1, none⟩) (.inl hPg) v6
  have HQ7 := Lib.hid hpq
  have HM7 := Lib.hid hm7
  have HRUN := Lib.hid hrun
  obtain ⟨A6, c6, rfl, hl6⟩ := ht6.slice
  rw [HL2.out, HAL.out] at HRUN HM7
  rw [HL2.out, HAL.out] at HQ7
  clear hpq hm6 hm7 hrun hrow5 hrow6 ht1 ht2 ht6 hgr6 hat6 hi0 hz0 hnew hb45 hne6 hs45
  refine one_ (i := 15) (N := some 39) #[true, true, true, true, true, true, true, true, true, true, true, true, true, true, true, true, false, false, false, false] rfl rfl (by kernel_rfl) (by decide) (fun K hK => ?_)
  refine event_step (w1 := w6) (v := .slice A6 (D.w.length + 1) c6) rfl (by simp [execOp, resolve, invoke, builtin, Act.eval, HRUN.out, Result.andThen]) ?_
  refine hK.out _ _ y1 (fun hHeld4 => ?_)
  clear hK K
  refine norm_ (a' := ?_) ?_ ?_
  rotate_left
  ·show Act.put _ (some 39) _ = _
   simp only [Act.put, List.setIfInBounds_toArray, List.set_cons_zero, List.set_cons_succ, i64_w, i32_w]
   rfl
  refine pure_ (i := 16) (N := some 40) (v := ?_) (a' := ?_) #[true, true, true, true, true, true, true, true, true, true, true, true, true, true, true, true, true, false, false, false] rfl rfl (by kernel_rfl) (fun _ _ _ h => h) (Or.inl ⟨by rfl, ?_⟩) ?_ ?_
  rotate_left
  ·intro w'
   go_simp
   with_reducible rfl
  rotate_left
  ·simp only [Act.put, List.setIfInBounds_toArray, List.set_cons_zero, List.set_cons_succ, i64_w, i32_w]
   rfl
  refine pure_ (i := 17) (N := some 41) (v := ?_) (a' := ?_) #[true, true, true, true, true, true, true, true, true, true, true, true, true, true, true, true, true, true, false, false] rfl rfl (by kernel_rfl) (fun _ _ _ h => h) (Or.inl ⟨by rfl, ?_⟩) ?_ ?_
  rotate_left
  ·intro w'
   go_simp
   with_reducible rfl
  rotate_left
  ·simp only [Act.put, List.setIfInBounds_toArray, List.set_cons_zero, List.set_cons_succ, i64_w, i32_w]
   rfl
  refine pure_ (i := 18) (N := some 42) (v := ?_) (a' := ?_) #[true, true, true, true, true, true, true, true, true, true, true, true, true, true, true, true, true, true, true, false] rfl rfl (by kernel_rfl) (fun _ _ _ h => h) (Or.inl ⟨by rfl, ?_⟩) ?_ ?_
  rotate_left
  ·intro w'
   go_simp
   with_reducible rfl
  rotate_left
  ·simp only [Act.put, List.setIfInBounds_toArray, List.set_cons_zero, List.set_cons_succ, i64_w, i32_w]
   rfl
  refine last_ (i := 19) (N := none) #[true, true, true, true, true, true, true, true, true, true, true, true, true, true, true, true, true, true, true, true] rfl rfl (by kernel_rfl) (by decide) (fun K hK => ?_)
  refine skip_ (w1 := ?_) (by rfl) rfl ?_ ?_
  rotate_left
  ·go_simp
   rfl
  refine hK.out _ _ ?_
  clear hK K
  refine done_ (by kernel_rfl) ?_
  have hsz6 : (w6.setCell ⟨g, 1, none⟩ (.slice A6 (D.w.length + 1) c6)).heap.size = w6.heap.size := by simp [World.setCell]
  have HSZ := Lib.hid hsz6
  clear hsz6 hHeld3 hHeld4 y0 y1 y2 y3 f1 HRUN g0 g1 g2 g3 hw1 hw2 hw3
  generalize (w6.setCell ⟨g, 1, none⟩ (.slice A6 (D.w.length + 1) c6)) = w7 at HQ7 HM7 HSZ ⊢
  have HA := dev_asks _ g ⟨D.b, l2, D.f, D.d⟩ w7 HQ7.out hf hf2
  rw [HPP.out] at HA
  go_wp2_with (go_at_call 35; refine HA.mono ?_; rintro e w8 ⟨rfl, hq8, hm8⟩; have HQ8 := Lib.hid hq8; have HM8 := Lib.hid hm8; clear hq8 hm8)
  go_ret
  have hs8 := HM8.out.size
  have hz := HSZ.out
  exact ⟨rfl, HQ8.out.mono (fun k hk => hk.imp id (fun h => ⟨h.1, by omega⟩)), HM7.out.then_ HM8.out (fun k hk => hk.imp id (fun h => h.1))⟩

-- PXIMPORT YtedbbpefogcjnaaGKey
/-! ### block_Write: function 15, by hand -/
def dv_dev (D : Dv) : Dv := if dv_check D = 0 then D else dv_zero
def dv_five (p : Dv × Int) : List ByteArray × (List (S39)) × Int × Bool × Int := (p.1.b, p.1.w, p.1.f, p.1.d, p.2)
theorem DQ.toV {P : Nat → Prop} {g B : Nat} {w : World} {D : Dv} {v1 v2 : Value} (h : DQ P g w D) (hv : w.heap[g]? = some (.cells #[v1, v2, .int .i64 D.f, .bool D.d] 50 (0, 0))) (hP : ∀ k, P k → B ≤ k) : Kd.V Kd.string 9 w B (fun k_ => (B ≤ k_)) v1 D.b ∧ Kd.V k39 39 w B (fun k_ => (B ≤ k_)) v2 D.w := by
 obtain ⟨h1, u1, u2, h2, h3, h4, h5, h6⟩ := h
 rw [h2] at hv
 cases hv
 exact ⟨h5.toV (d := Kd.string) (fun _ _ => rfl) (fun _ => rfl) rfl B (fun k hk => hP k (h3 k hk)), h6.toV (d := k39) (fun w x => k39_mk w x) (fun _ => rfl) rfl B (fun k hk => hP k (h4 k hk))⟩
/-- A device is handed back: its four cells, stored into the result's block s. -/
theorem dev_out {P : Nat → Prop} {g s : Nat} {w0 W : World} {D : Dv} {v1 v2 : Value} {cur : Array Value} (hq : DQ P g W D) (hrow : W.heap[g]? = some (.cells #[v1, v2, .int .i64 D.f, .bool D.d] 50 (0, 0))) (hB : Below w0.heap.size w0 W) (hs : w0.heap.size ≤ s) (hP : ∀ k, P k → w0.heap.size ≤ k ∧ k ≠ s) (hcur : W.heap[s]? = some (.cells cur 25 (0, 0))) :
  (W.setRow s #[v1, v2, .int .i64 D.f, .bool D.d]).heap[s]? = some (.cells #[v1, v2, .int .i64 D.f, .bool D.d] 25 (0, 0)) ∧ Kd.V Kd.string 9 (W.setRow s #[v1, v2, .int .i64 D.f, .bool D.d]) w0.heap.size (fun k_ => (w0.heap.size ≤ k_)) v1 D.b ∧ Kd.V k39 39 (W.setRow s #[v1, v2, .int .i64 D.f, .bool D.d]) w0.heap.size (fun k_ => (w0.heap.size ≤ k_)) v2 D.w ∧ Below w0.heap.size w0 (W.setRow s #[v1, v2, .int .i64 D.f, .bool D.d]) := by
 have hq2 : DQ P g (W.setRow s #[v1, v2, .int .i64 D.f, .bool D.d]) D := hq.moved (fun k hp hk => setRow_other W s k _ (hP k hp).2)
 have hrow2 := (setRow_other W s g #[v1, v2, .int .i64 D.f, .bool D.d] (hP g hq.1).2).trans hrow
 obtain ⟨a, b⟩ := hq2.toV hrow2 (fun k hk => (hP k hk).1)
 exact ⟨setRow_heap W s cur _ 25 _ hcur, a, b, keys_below_setRow hB hs _⟩
def dv_Write (D : Dv) (at_ : Int) (s : ByteArray) : Dv × Int := if dv_open D = 0 then dv_write D at_ s else (dv_dev D, dv_open D)
def block_Write.f (l0_0 : List ByteArray) (l0_1 : List (S39)) (a0_2 : Int) (a0_3 : Bool) (a1 : Int) (a2 : ByteArray) : Option (List ByteArray × (List (S39)) × Int × Bool × Int) := if dv_fit ⟨l0_0, l0_1, a0_2, a0_3⟩ then some (dv_five (dv_Write ⟨l0_0, l0_1, a0_2, a0_3⟩ a1 a2)) else none
theorem dv_open_zero {D : Dv} (h : dv_open D = 0) : dv_check D = 0 := by
 unfold dv_open at h
 split at h
 ·assumption
 ·exact h
theorem dv_check_ok {D : Dv} (h : dv_check D = 0) : dv_ok D = true := by
 unfold dv_check at h
 split at h
 ·assumption
 ·cases h
theorem dv_ok_fuse {D : Dv} (h : dv_ok D = true) : -1 ≤ D.f := by
 unfold dv_ok at h
 simp only [Bool.and_eq_true, decide_eq_true_eq] at h
 exact h.2.2.1
set_option maxHeartbeats 2000000 in
set_option maxRecDepth 100000 in
theorem block_Write.calls (A0_0 : Option Addr) (c0_0 : Nat) (l0_0 : List ByteArray) (A0_1 : Option Addr) (c0_1 : Nat) (l0_1 : List (S39)) (a0_2 : Int) (a0_3 : Bool) (a1 : Int) (a2 : ByteArray) (r1 : List ByteArray) (r2 : List (S39)) (r3 : Int) (r4 : Bool) (r5 : Int) (w : World) (hr0_0 : Kd.C Kd.string w A0_0 l0_0.length l0_0) (hc0_0 : l0_0.length ≤ c0_0) (hr0_1 : Kd.C k39 w A0_1 l0_1.length l0_1) (hc0_1 : l0_1.length ≤ c0_1) (h : block_Write.f l0_0 l0_1 a0_2 a0_3 a1 a2 = some (r1, r2, r3, r4, r5)) :
  Calls Try.prog 15 #[.agg #[.slice A0_0 l0_0.length c0_0, .slice A0_1 l0_1.length c0_1, .int .i64 a0_2, .bool a0_3], .int .i64 a1, .string a2] w fun e w' => ∃ v0_ v1_ : Value, e = .returned (.tuple #[.agg #[v0_, v1_, .int .i64 r3, .bool r4], .int .i64 r5]) ∧ Kd.V Kd.string 9 w' w.heap.size (fun k_ => (w.heap.size ≤ k_)) v0_ r1 ∧ Kd.V k39 39 w' w.heap.size (fun k_ => (w.heap.size ≤ k_)) v1_ r2 ∧ Below w.heap.size w w' := by
 have hu := Try.underlying50
 have hu2 := Try.underlying25
 unfold block_Write.f at h
 obtain ⟨D, hD⟩ : ∃ D : Dv, D = ⟨l0_0, l0_1, a0_2, a0_3⟩ := ⟨_, rfl⟩
 rw [← hD] at h
 obtain ⟨rfl, rfl, rfl, rfl⟩ : l0_0 = D.b ∧ l0_1 = D.w ∧ a0_2 = D.f ∧ a0_3 = D.d := by rw [hD]; exact ⟨rfl, rfl, rfl, rfl⟩
 clear hD
 split at h
 rotate_left
 ·cases h
 rename_i hfit
 have H := Option.some.inj h
 clear h
 obtain ⟨E, hE⟩ : ∃ E, E = dv_Write D a1 a2 := ⟨_, rfl⟩
 rw [← hE] at H
 unfold dv_five at H
 simp only [Prod.mk.injEq] at H
 obtain ⟨rfl, rfl, rfl, rfl, rfl⟩ := H
 have hb := below_alloc (below_alloc (Below.refl w.heap.size w) (.cells #[.slice A0_0 D.b.length c0_0, .slice A0_1 D.w.length c0_1, .int .i64 D.f, .bool D.d] 25)) (.cells #[.slice none 0 0, .slice none 0 0, .int .i64 0, .bool false] 25)
 have hn := blk_new (w.alloc (.cells #[.slice A0_0 D.b.length c0_0, .slice A0_1 D.w.length c0_1, .int .i64 D.f, .bool D.d] 25)) (.cells #[.slice none 0 0, .slice none 0 0, .int .i64 0, .bool false] 25)
 rw [World.size_alloc] at hn
 have HO := Lib.hid (dev_open A0_0 c0_0 A0_1 c0_1 D _ (Kd.C_below hr0_0 hb) hc0_0 (Kd.C_below hr0_1 hb) hc0_1 hfit)
 have HB := Lib.hid hb
 have HN := Lib.hid hn
 clear hr0_0 hr0_1 hb hn
 change Hid (Calls _ _ _ _ (fun e w' => ∃ g, e = .returned (.tuple #[.pointer (some ⟨g, 0, none⟩), .int .i64 (dv_open D)]) ∧ DQ _ g w' (dv_dev D) ∧ _)) at HO
 unfold dv_Write at hE
 by_cases c : dv_open D = 0
 rotate_left
 ·rw [if_neg c] at hE
  subst hE
  simp only
  generalize dv_dev D = E at HO ⊢
  generalize dv_open D = r at HO c ⊢
  have d : (r == 0) = false := beq_eq_false_iff_ne.mpr c
  go_enter Try.func15, Try.ntmps15
  go_wp2_with (first | (go_at_call 23; refine HO.out.mono ?_; rintro e w3 ⟨g, rfl, hq3, hb3⟩; have HQ3 := Lib.hid hq3; have HB3 := Lib.hid (below_then HB.out HB.out.size hb3); obtain ⟨B1, e1, B2, e2, hrow, _⟩ := hq3.all; have HROW := Lib.hid hrow; have HCUR := Lib.hid ((hb3.block _ (blk_lt HN.out)).trans HN.out); obtain ⟨y0, y1, y2, y3⟩ := blk_cells4 hrow; have HOUT := Lib.hid (dev_out hq3 hrow HB3.out (s := w.heap.size + 1) (by omega) (fun k hk => by have := hk.1; simp at this; omega) HCUR.out); clear hb3 hq3 hrow) | (refine keys_store_row rfl 25 (.tmp 6) (.tmp 24) rfl (w.heap.size + 1) _ #[.slice B1 E.b.length e1, .slice B2 E.w.length e2, .int .i64 E.f, .bool E.d] 25 rfl rfl HCUR.out rfl (by kernel_rfl) (by intro v hv; simp at hv; rcases hv with rfl | rfl | rfl | rfl <;> rfl) ?_))
  obtain ⟨o1, o2, o3, o4⟩ := HOUT.out
  obtain ⟨x0, x1, x2, x3⟩ := blk_cells4 o1
  refine bodyPost_ret (v := .tuple #[.agg #[.slice B1 E.b.length e1, .slice B2 E.w.length e2, .int .i64 E.f, .bool E.d], .int .i64 r]) (by simp [results, Try.results15, go_sem, x0, x1, x2, x3]) rfl ⟨_, _, rfl, o2, o3, o4⟩
 ·rw [if_pos c] at hE
  have hch := dv_open_zero c
  have hok := dv_ok_fuse (dv_check_ok hch)
  unfold dv_dev at HO
  rw [if_pos hch, c] at HO
  clear c hch
  obtain ⟨E, r⟩ := E
  simp only
  have HE := Lib.hid hE
  have HFIT := Lib.hid hfit
  clear hE hfit
  go_enter Try.func15, Try.ntmps15
  go_wp2_with (first | (go_at_call 23; refine HO.out.mono ?_; rintro e w3 ⟨g, rfl, hq3, hb3⟩; have HB3 := Lib.hid (below_then HB.out HB.out.size hb3); have HCUR := Lib.hid ((hb3.block _ (blk_lt HN.out)).trans HN.out); have HW := Lib.hid (dev_write _ g D a1 a2 w3 (fun k hk => hk.2) hq3 hok HFIT.out.2.2 HFIT.out.2.1); rw [← HE.out] at HW; clear hb3 hq3) | (go_at_call 26; refine HW.out.mono ?_; rintro e w4 ⟨rfl, hq4, hm4⟩; have hb4 : Below w.heap.size w w4 := HB3.out.trans (hm4.under HB3.out.size (fun k hk => by have := hk.1; simp at this; omega)); obtain ⟨B1, e1, B2, e2, hrow, _⟩ := hq4.all; have HCUR4 := Lib.hid (hm4.blk HCUR.out (fun h => by have := h.1; simp at this; omega)); obtain ⟨y0, y1, y2, y3⟩ := blk_cells4 hrow; have HOUT := Lib.hid (dev_out hq4 hrow hb4 (s := w.heap.size + 1) (by omega) (fun k hk => by have hs := hb4.size; have hs3 := HB3.out.size; have hl := blk_lt HCUR.out; rcases hk with hk | hk <;> (have h1 := hk.1; (try simp only [World.size_alloc] at h1); omega)) HCUR4.out); clear hb4 hq4 hrow hm4) | (refine keys_store_row rfl 25 (.tmp 6) (.tmp 24) rfl (w.heap.size + 1) _ #[.slice B1 E.b.length e1, .slice B2 E.w.length e2, .int .i64 E.f, .bool E.d] 25 rfl rfl HCUR4.out rfl (by kernel_rfl) (by intro v hv; simp at hv; rcases hv with rfl | rfl | rfl | rfl <;> rfl) ?_))
  obtain ⟨o1, o2, o3, o4⟩ := HOUT.out
  obtain ⟨x0, x1, x2, x3⟩ := blk_cells4 o1
  refine bodyPost_ret (v := .tuple #[.agg #[.slice B1 E.b.length e1, .slice B2 E.w.length e2, .int .i64 E.f, .bool E.d], .int .i64 r]) (by simp [results, Try.results15, go_sem, x0, x1, x2, x3]) rfl ⟨_, _, rfl, o2, o3, o4⟩


-- PXIMPORT YtedbbpefogcjnaaGKey
/-! ### block_Sync: function 13, by hand -/
def dv_Sync (D : Dv) : Dv × Int := if dv_open D = 0 then dv_sync D else (dv_dev D, dv_open D)
def block_Sync.f (l0_0 : List ByteArray) (l0_1 : List (S39)) (a0_2 : Int) (a0_3 : Bool) : Option (List ByteArray × (List (S39)) × Int × Bool × Int) := if dv_fit ⟨l0_0, l0_1, a0_2, a0_3⟩ then some (dv_five (dv_Sync ⟨l0_0, l0_1, a0_2, a0_3⟩)) else none
theorem dv_ok_inw {D : Dv} (h : dv_ok D = true) : dv_inw D := by
 unfold dv_ok at h
 simp only [Bool.and_eq_true, decide_eq_true_eq, List.all_eq_true] at h
 intro x hx
 have := h.2.2.2.2 x hx
 unfold dv_okw at this
 simp only [Bool.and_eq_true, decide_eq_true_eq] at this
 exact ⟨this.1, this.2.1⟩
set_option maxHeartbeats 2000000 in
set_option maxRecDepth 100000 in
theorem block_Sync.calls (A0_0 : Option Addr) (c0_0 : Nat) (l0_0 : List ByteArray) (A0_1 : Option Addr) (c0_1 : Nat) (l0_1 : List (S39)) (a0_2 : Int) (a0_3 : Bool) (r1 : List ByteArray) (r2 : List (S39)) (r3 : Int) (r4 : Bool) (r5 : Int) (w : World) (hr0_0 : Kd.C Kd.string w A0_0 l0_0.length l0_0) (hc0_0 : l0_0.length ≤ c0_0) (hr0_1 : Kd.C k39 w A0_1 l0_1.length l0_1) (hc0_1 : l0_1.length ≤ c0_1) (h : block_Sync.f l0_0 l0_1 a0_2 a0_3 = some (r1, r2, r3, r4, r5)) :
  Calls Try.prog 13 #[.agg #[.slice A0_0 l0_0.length c0_0, .slice A0_1 l0_1.length c0_1, .int .i64 a0_2, .bool a0_3]] w fun e w' => ∃ v0_ v1_ : Value, e = .returned (.tuple #[.agg #[v0_, v1_, .int .i64 r3, .bool r4], .int .i64 r5]) ∧ Kd.V Kd.string 9 w' w.heap.size (fun k_ => (w.heap.size ≤ k_)) v0_ r1 ∧ Kd.V k39 39 w' w.heap.size (fun k_ => (w.heap.size ≤ k_)) v1_ r2 ∧ Below w.heap.size w w' := by
 have hu := Try.underlying50
 have hu2 := Try.underlying25
 unfold block_Sync.f at h
 obtain ⟨D, hD⟩ : ∃ D : Dv, D = ⟨l0_0, l0_1, a0_2, a0_3⟩ := ⟨_, rfl⟩
 rw [← hD] at h
 obtain ⟨rfl, rfl, rfl, rfl⟩ : l0_0 = D.b ∧ l0_1 = D.w ∧ a0_2 = D.f ∧ a0_3 = D.d := by rw [hD]; exact ⟨rfl, rfl, rfl, rfl⟩
 clear hD
 split at h
 rotate_left
 ·cases h
 rename_i hfit
 have H := Option.some.inj h
 clear h
 obtain ⟨E, hE⟩ : ∃ E, E = dv_Sync D := ⟨_, rfl⟩
 rw [← hE] at H
 unfold dv_five at H
 simp only [Prod.mk.injEq] at H
 obtain ⟨rfl, rfl, rfl, rfl, rfl⟩ := H
 have hb := below_alloc (below_alloc (Below.refl w.heap.size w) (.cells #[.slice A0_0 D.b.length c0_0, .slice A0_1 D.w.length c0_1, .int .i64 D.f, .bool D.d] 25)) (.cells #[.slice none 0 0, .slice none 0 0, .int .i64 0, .bool false] 25)
 have hn := blk_new (w.alloc (.cells #[.slice A0_0 D.b.length c0_0, .slice A0_1 D.w.length c0_1, .int .i64 D.f, .bool D.d] 25)) (.cells #[.slice none 0 0, .slice none 0 0, .int .i64 0, .bool false] 25)
 rw [World.size_alloc] at hn
 have HO := Lib.hid (dev_open A0_0 c0_0 A0_1 c0_1 D _ (Kd.C_below hr0_0 hb) hc0_0 (Kd.C_below hr0_1 hb) hc0_1 hfit)
 have HB := Lib.hid hb
 have HN := Lib.hid hn
 clear hr0_0 hr0_1 hb hn
 change Hid (Calls _ _ _ _ (fun e w' => ∃ g, e = .returned (.tuple #[.pointer (some ⟨g, 0, none⟩), .int .i64 (dv_open D)]) ∧ DQ _ g w' (dv_dev D) ∧ _)) at HO
 unfold dv_Sync at hE
 by_cases c : dv_open D = 0
 rotate_left
 ·rw [if_neg c] at hE
  subst hE
  simp only
  generalize dv_dev D = E at HO ⊢
  generalize dv_open D = r at HO c ⊢
  have d : (r == 0) = false := beq_eq_false_iff_ne.mpr c
  go_enter Try.func13, Try.ntmps13
  go_wp2_with (first | (go_at_call 23; refine HO.out.mono ?_; rintro e w3 ⟨g, rfl, hq3, hb3⟩; have HQ3 := Lib.hid hq3; have HB3 := Lib.hid (below_then HB.out HB.out.size hb3); obtain ⟨B1, e1, B2, e2, hrow, _⟩ := hq3.all; have HROW := Lib.hid hrow; have HCUR := Lib.hid ((hb3.block _ (blk_lt HN.out)).trans HN.out); obtain ⟨y0, y1, y2, y3⟩ := blk_cells4 hrow; have HOUT := Lib.hid (dev_out hq3 hrow HB3.out (s := w.heap.size + 1) (by omega) (fun k hk => by have := hk.1; simp at this; omega) HCUR.out); clear hb3 hq3 hrow) | (refine keys_store_row rfl 25 (.tmp 2) (.tmp 18) rfl (w.heap.size + 1) _ #[.slice B1 E.b.length e1, .slice B2 E.w.length e2, .int .i64 E.f, .bool E.d] 25 rfl rfl HCUR.out rfl (by kernel_rfl) (by intro v hv; simp at hv; rcases hv with rfl | rfl | rfl | rfl <;> rfl) ?_))
  obtain ⟨o1, o2, o3, o4⟩ := HOUT.out
  obtain ⟨x0, x1, x2, x3⟩ := blk_cells4 o1
  refine bodyPost_ret (v := .tuple #[.agg #[.slice B1 E.b.length e1, .slice B2 E.w.length e2, .int .i64 E.f, .bool E.d], .int .i64 r]) (by simp [results, Try.results13, go_sem, x0, x1, x2, x3]) rfl ⟨_, _, rfl, o2, o3, o4⟩
 ·rw [if_pos c] at hE
  have hch := dv_open_zero c
  have hok := dv_ok_fuse (dv_check_ok hch)
  have hin := dv_ok_inw (dv_check_ok hch)
  have HIN := Lib.hid hin
  clear hin
  unfold dv_dev at HO
  rw [if_pos hch, c] at HO
  clear c hch
  obtain ⟨E, r⟩ := E
  simp only
  have HE := Lib.hid hE
  have HFIT := Lib.hid hfit
  clear hE hfit
  go_enter Try.func13, Try.ntmps13
  go_wp2_with (first | (go_at_call 23; refine HO.out.mono ?_; rintro e w3 ⟨g, rfl, hq3, hb3⟩; have HB3 := Lib.hid (below_then HB.out HB.out.size hb3); have HCUR := Lib.hid ((hb3.block _ (blk_lt HN.out)).trans HN.out); have HW := Lib.hid (dev_sync _ g D w3 (fun k hk => hk.2) hq3 hok HFIT.out.2.2 HIN.out); rw [← HE.out] at HW; clear hb3 hq3) | (go_at_call 24; refine HW.out.mono ?_; rintro e w4 ⟨rfl, hq4, hm4⟩; have hb4 : Below w.heap.size w w4 := HB3.out.trans (hm4.under HB3.out.size (fun k hk => by have := hk.1; simp at this; omega)); obtain ⟨B1, e1, B2, e2, hrow, _⟩ := hq4.all; have HCUR4 := Lib.hid (hm4.blk HCUR.out (fun h => by have := h.1; simp at this; omega)); obtain ⟨y0, y1, y2, y3⟩ := blk_cells4 hrow; have HOUT := Lib.hid (dev_out hq4 hrow hb4 (s := w.heap.size + 1) (by omega) (fun k hk => by have hs := hb4.size; have hs3 := HB3.out.size; have hl := blk_lt HCUR.out; (have h1 := hk.1; (try simp only [World.size_alloc] at h1); omega)) HCUR4.out); clear hb4 hq4 hrow hm4) | (refine keys_store_row rfl 25 (.tmp 2) (.tmp 18) rfl (w.heap.size + 1) _ #[.slice B1 E.b.length e1, .slice B2 E.w.length e2, .int .i64 E.f, .bool E.d] 25 rfl rfl HCUR4.out rfl (by kernel_rfl) (by intro v hv; simp at hv; rcases hv with rfl | rfl | rfl | rfl <;> rfl) ?_))
  obtain ⟨o1, o2, o3, o4⟩ := HOUT.out
  obtain ⟨x0, x1, x2, x3⟩ := blk_cells4 o1
  refine bodyPost_ret (v := .tuple #[.agg #[.slice B1 E.b.length e1, .slice B2 E.w.length e2, .int .i64 E.f, .bool E.d], .int .i64 r]) (by simp [results, Try.results13, go_sem, x0, x1, x2, x3]) rfl ⟨_, _, rfl, o2, o3, o4⟩


end Go.Proofs.Ytedbbpefogcjnaa.XB
-- squeezed
