-- by px.py, a program of this session, over the kit's printer: functions given by hand stand beside printed ones. Lean checks all of it.
import Derived.Test.YthlnjbaichkipaaDoorZXR0
import Derived.Test.YthlnjbaichkipaaDoorZXR4
import Derived.Test.YthlnjbaichkipaaDoorZXR7
import Derived.Test.YthlnjbaichkipaaDoorZXR9
import Derived.Test.YthlnjbaichkipaaDoorZGDev
import Derived.Test.YthlnjbaichkipaaDoorZGKey
namespace Go.Proofs.YthlnjbaichkipaaDoor.XR
open Go.RowKit Go.Proofs.YthlnjbaichkipaaDoorW.PrintWords Go.Proofs.YthlnjbaichkipaaDoorW.PrintLast Go.Proofs.YthlnjbaichkipaaDoorW.PrintMore
attribute [local go_sem] max2_int min2_int max_two min_two max_three min_three max_four min_four   -- for this text's walks alone
set_option linter.unusedVariables false
set_option linter.unusedSimpArgs false
def tr_Wipe (D : Dv) (f m : Int) : Dv × Int := if tr_open D f m = 0 then tr_wipe D f m.toNat 0 else (dv_dev D, tr_open D f m)
def trail_Wipe.f (l0_0 : List ByteArray) (l0_1 : List (S60)) (a0_2 : Int) (a0_3 : Bool) (a1 : Int) (a2 : Int) : Option (List ByteArray × (List (S60)) × Int × Bool × Int) := if dv_fit ⟨l0_0, l0_1, a0_2, a0_3⟩ then some (dv_five (tr_Wipe ⟨l0_0, l0_1, a0_2, a0_3⟩ a1 a2)) else none
set_option maxHeartbeats 2000000 in
set_option maxRecDepth 100000 in
theorem trail_Wipe.calls (A0_0 : Option Addr) (c0_0 : Nat) (l0_0 : List ByteArray) (A0_1 : Option Addr) (c0_1 : Nat) (l0_1 : List (S60)) (a0_2 : Int) (a0_3 : Bool) (a1 : Int) (a2 : Int) (r1 : List ByteArray) (r2 : List (S60)) (r3 : Int) (r4 : Bool) (r5 : Int) (w : World) (hr0_0 : Kd.C Kd.string w A0_0 l0_0.length l0_0) (hc0_0 : l0_0.length ≤ c0_0) (hr0_1 : Kd.C k60 w A0_1 l0_1.length l0_1) (hc0_1 : l0_1.length ≤ c0_1) (h : trail_Wipe.f l0_0 l0_1 a0_2 a0_3 a1 a2 = some (r1, r2, r3, r4, r5)) :
  Calls Tryd.prog 8 #[.agg #[.slice A0_0 l0_0.length c0_0, .slice A0_1 l0_1.length c0_1, .int .i64 a0_2, .bool a0_3], .int .i64 a1, .int .i64 a2] w fun e w' => ∃ v0_ v1_ : Value, e = .returned (.tuple #[.agg #[v0_, v1_, .int .i64 r3, .bool r4], .int .i64 r5]) ∧ Kd.V Kd.string 9 w' w.heap.size (fun k_ => (w.heap.size ≤ k_)) v0_ r1 ∧ Kd.V k60 60 w' w.heap.size (fun k_ => (w.heap.size ≤ k_)) v1_ r2 ∧ Below w.heap.size w w' := by
 have hu := Tryd.underlying56
 have hu2 := Tryd.underlying25
 unfold trail_Wipe.f at h
 obtain ⟨D, hD⟩ : ∃ D : Dv, D = ⟨l0_0, l0_1, a0_2, a0_3⟩ := ⟨_, rfl⟩
 rw [← hD] at h
 obtain ⟨rfl, rfl, rfl, rfl⟩ : l0_0 = D.b ∧ l0_1 = D.w ∧ a0_2 = D.f ∧ a0_3 = D.d := by rw [hD]; exact ⟨rfl, rfl, rfl, rfl⟩
 clear hD
 split at h
 rotate_left
 ·cases h
 rename_i hfit
 have H := Option.some.inj h
 clear h
 obtain ⟨E, hE⟩ : ∃ E, E = tr_Wipe D a1 a2 := ⟨_, rfl⟩
 rw [← hE] at H
 unfold dv_five at H
 simp only [Prod.mk.injEq] at H
 obtain ⟨rfl, rfl, rfl, rfl, rfl⟩ := H
 have hb := below_alloc (below_alloc (Below.refl w.heap.size w) (.cells #[.slice A0_0 D.b.length c0_0, .slice A0_1 D.w.length c0_1, .int .i64 D.f, .bool D.d] 25)) (.cells #[.slice none 0 0, .slice none 0 0, .int .i64 0, .bool false] 25)
 have hn := blk_new (w.alloc (.cells #[.slice A0_0 D.b.length c0_0, .slice A0_1 D.w.length c0_1, .int .i64 D.f, .bool D.d] 25)) (.cells #[.slice none 0 0, .slice none 0 0, .int .i64 0, .bool false] 25)
 rw [World.size_alloc] at hn
 have HO := Lib.hid (tr_opens A0_0 c0_0 A0_1 c0_1 D a1 a2 _ (Kd.C_below hr0_0 hb) hc0_0 (Kd.C_below hr0_1 hb) hc0_1 hfit)
 have HB := Lib.hid hb
 have HN := Lib.hid hn
 clear hr0_0 hr0_1 hb hn
 change Hid (Calls _ _ _ _ (fun e w' => ∃ g, e = .returned (.tuple #[.pointer (some ⟨g, 0, none⟩), _, .int .i64 (tr_open D a1 a2)]) ∧ DQ _ g w' (dv_dev D) ∧ _)) at HO
 unfold tr_Wipe at hE
 by_cases c : tr_open D a1 a2 = 0
 rotate_left
 ·rw [if_neg c] at hE
  subst hE
  simp only [if_neg c] at HO ⊢
  generalize dv_dev D = E at HO ⊢
  generalize tr_open D a1 a2 = r at HO c ⊢
  unfold tr_zero at HO
  have d : (r == 0) = false := beq_eq_false_iff_ne.mpr c
  go_enter Tryd.func8, Tryd.ntmps8
  go_wp2_with (first | (go_at_call 20; refine HO.out.mono ?_; rintro e w3 ⟨g, rfl, hq3, hb3⟩; have HB3 := Lib.hid (below_then HB.out HB.out.size hb3); have HQ3 := Lib.hid hq3; have hn3 := blk_new w3 (.cells #[.pointer none, .int .i64 0, .int .i64 0] 51); have HN3 := Lib.hid hn3; have hb4 : Below w3.heap.size w3 ((w3.alloc (.cells #[.pointer none, .int .i64 0, .int .i64 0] 51)).setRow w3.heap.size #[.pointer none, .int .i64 0, .int .i64 0]) := keys_below_setRow (below_alloc (Below.refl _ w3) _) (Nat.le_refl _) _; have HB4 := Lib.hid hb4; have HCUR := Lib.hid ((hb4.block _ (Nat.lt_of_lt_of_le (blk_lt HN.out) hb3.size)).trans ((hb3.block _ (blk_lt HN.out)).trans HN.out)); have o1 := setRow_heap (w3.alloc (.cells #[.pointer none, .int .i64 0, .int .i64 0] 51)) w3.heap.size _ #[.pointer none, .int .i64 0, .int .i64 0] 51 _ hn3; obtain ⟨x0, x1, x2⟩ := blk_cells3 o1; have hq4 := hq3.below hb4; have hbb := below_then HB3.out HB3.out.size hb4; obtain ⟨B1, e1, B2, e2, hrow, _⟩ := hq4.all; obtain ⟨y0, y1, y2, y3⟩ := blk_cells4 hrow; have HCURF := Lib.hid (HCUR.out); have HOUT := Lib.hid (dev_out hq4 hrow hbb (s := w.heap.size + 1) (by omega) (fun k hk => by have h1 := hk.1; simp only [World.size_alloc] at h1; omega) HCURF.out); clear hrow; clear hq4 hbb; clear hb3 hq3 hn3 hb4 o1) | (refine keys_store_row rfl 51 (.tmp 9) (.tmp 17) rfl (w3.heap.size) _ #[.pointer none, .int .i64 0, .int .i64 0] 51 rfl rfl HN3.out rfl (by kernel_rfl) (by intro v hv; simp at hv; rcases hv with rfl | rfl <;> rfl) ?_) | (refine keys_store_row rfl 25 (.tmp 6) (.tmp 26) rfl (w.heap.size + 1) _ #[.slice B1 E.b.length e1, .slice B2 E.w.length e2, .int .i64 E.f, .bool E.d] 25 rfl rfl HCURF.out rfl (by kernel_rfl) (by intro v hv; simp at hv; rcases hv with rfl | rfl | rfl | rfl <;> rfl) ?_))
  obtain ⟨o1, o2, o3, o4⟩ := HOUT.out
  obtain ⟨x0, x1, x2, x3⟩ := blk_cells4 o1
  refine bodyPost_ret (v := .tuple #[.agg #[.slice B1 E.b.length e1, .slice B2 E.w.length e2, .int .i64 E.f, .bool E.d], .int .i64 r]) (by simp [results, Tryd.results8, go_sem, x0, x1, x2, x3]) rfl ⟨_, _, rfl, o2, o3, o4⟩
 ·rw [if_pos c] at hE
  obtain ⟨ho, hin⟩ := tr_open_zero c
  have hch := dv_open_zero ho
  have hdd : dv_dev D = D := if_pos hch
  simp only [if_pos c, c] at HO
  rw [hdd] at HO
  unfold tr_reg at HO
  obtain ⟨E, why⟩ := E
  simp only
  have HMET := Lib.hid (fun (g : Nat) (P : Nat → Prop) (W : World) (hP : ∀ k, P k → k < W.heap.size) (hq : DQ P g W D) => tr_rWipe P g D a1 a2 W hP hq (tr_ok_sane hch hfit.2.2) (tr_ok_len hch) hin)
  rw [← hE] at HMET
  clear hE c ho hch hin hfit hdd
  go_enter Tryd.func8, Tryd.ntmps8
  go_wp2_with (first | (go_at_call 20; refine HO.out.mono ?_; rintro e w3 ⟨g, rfl, hq3, hb3⟩; have HB3 := Lib.hid (below_then HB.out HB.out.size hb3); have HQ3 := Lib.hid hq3; have hn3 := blk_new w3 (.cells #[.pointer none, .int .i64 0, .int .i64 0] 51); have HN3 := Lib.hid hn3; have hb4 : Below w3.heap.size w3 ((w3.alloc (.cells #[.pointer none, .int .i64 0, .int .i64 0] 51)).setRow w3.heap.size #[.pointer (some ⟨g, 0, none⟩), .int .i64 a1, .int .i64 a2]) := keys_below_setRow (below_alloc (Below.refl _ w3) _) (Nat.le_refl _) _; have HB4 := Lib.hid hb4; have HCUR := Lib.hid ((hb4.block _ (Nat.lt_of_lt_of_le (blk_lt HN.out) hb3.size)).trans ((hb3.block _ (blk_lt HN.out)).trans HN.out)); have o1 := setRow_heap (w3.alloc (.cells #[.pointer none, .int .i64 0, .int .i64 0] 51)) w3.heap.size _ #[.pointer (some ⟨g, 0, none⟩), .int .i64 a1, .int .i64 a2] 51 _ hn3; obtain ⟨x0, x1, x2⟩ := blk_cells3 o1; have HM4 := Lib.hid (HMET.out g (fun k => w.heap.size + 2 ≤ k ∧ k < w3.heap.size) _ (fun k hk => Nat.lt_of_lt_of_le hk.2 hb4.size) ((hq3.mono (S := fun k => w.heap.size + 2 ≤ k ∧ k < w3.heap.size) (fun k hk => ⟨by have h1 := hk.1; simp only [World.size_alloc] at h1; omega, hk.2⟩)).below hb4)); have HBB := Lib.hid (below_then HB3.out HB3.out.size hb4); have HZ4 := Lib.hid (show w.heap.size + 1 < w3.heap.size from Nat.lt_of_lt_of_le (blk_lt HN.out) hb3.size); clear hb3 hq3 hn3 hb4 o1) | (refine keys_store_row rfl 51 (.tmp 9) (.tmp 17) rfl (w3.heap.size) _ #[.pointer (some ⟨g, 0, none⟩), .int .i64 a1, .int .i64 a2] 51 rfl rfl HN3.out rfl (by kernel_rfl) (by intro v hv; simp at hv; rcases hv with rfl | rfl | rfl <;> rfl) ?_) | (go_at_call 21; refine HM4.out.mono ?_; rintro e w5 ⟨rfl, hq5, hm5⟩; have hz4 := HZ4.out; have hb5 : Below w.heap.size w w5 := HBB.out.trans (hm5.under HBB.out.size (fun k hk => by have := hk.1; omega)); have hs4 := HB4.out.size; obtain ⟨B1, e1, B2, e2, hrow, _⟩ := hq5.all; obtain ⟨y0, y1, y2, y3⟩ := blk_cells4 hrow; have HCURF := Lib.hid (hm5.blk HCUR.out (fun hp => by have := hp.1; omega)); have HOUT := Lib.hid (dev_out hq5 hrow hb5 (s := w.heap.size + 1) (by omega) (fun k hk => by rcases hk with hk | hk <;> (have h1 := hk.1; omega)) HCURF.out); clear hrow; clear hq5 hm5 hb5 hz4 hs4) | (refine keys_store_row rfl 25 (.tmp 6) (.tmp 26) rfl (w.heap.size + 1) _ #[.slice B1 E.b.length e1, .slice B2 E.w.length e2, .int .i64 E.f, .bool E.d] 25 rfl rfl HCURF.out rfl (by kernel_rfl) (by intro v hv; simp at hv; rcases hv with rfl | rfl | rfl | rfl <;> rfl) ?_))
  obtain ⟨o1, o2, o3, o4⟩ := HOUT.out
  obtain ⟨x0, x1, x2, x3⟩ := blk_cells4 o1
  refine bodyPost_ret (v := .tuple #[.agg #[.slice B1 E.b.length e1, .slice B2 E.w.length e2, .int .i64 E.f, .bool E.d], .int .i64 why]) (by simp [results, Tryd.results8, go_sem, x0, x1, x2, x3]) rfl ⟨_, _, rfl, o2, o3, o4⟩


end Go.Proofs.YthlnjbaichkipaaDoor.XR
