-- by px.py, a program of this session, over the kit's printer: functions given by hand stand beside printed ones. Lean checks all of it.
import Derived.Test.YthlnjbaichkipaaDoorZXR0
import Derived.Test.YthlnjbaichkipaaDoorZXR3
import Derived.Test.YthlnjbaichkipaaDoorZGDev
import Derived.Test.YthlnjbaichkipaaDoorZGKey
import Derived.Deep.LoopGhost
namespace Go.Proofs.YthlnjbaichkipaaDoor.XR
open Go.RowKit Go.Proofs.YthlnjbaichkipaaDoorW.PrintWords Go.Proofs.YthlnjbaichkipaaDoorW.PrintLast Go.Proofs.YthlnjbaichkipaaDoorW.PrintMore
attribute [local go_sem] max2_int min2_int max_two min_two max_three min_three max_four min_four   -- for this text's walks alone
set_option linter.unusedVariables false
set_option linter.unusedSimpArgs false
def dv_asks (D : Dv) : Dv × Int := if D.f = 0 then (⟨D.b, D.w, D.f, true⟩, 9) else (⟨D.b, D.w, if D.f = -1 then -1 else D.f - 1, D.d⟩, 0)
theorem DQ.put {P : Nat → Prop} {g : Nat} {w : World} {D : Dv} (h : DQ P g w D) (i : Nat) (u : Value) (D' : Dv) (hb : D'.b = D.b) (hw : D'.w = D.w) (hc : ∀ v1 v2, (#[v1, v2, .int .i64 D.f, .bool D.d] : Array Value).setIfInBounds i u = #[v1, v2, .int .i64 D'.f, .bool D'.d]) : DQ P g (w.setCell ⟨g, i, none⟩ u) D' := by
 obtain ⟨h1, v1, v2, h2, h3, h4, h5, h6⟩ := h
 have hs := blk_set h2 i u
 rw [hc] at hs
 have n1 : ∀ k, v1.ownBlock = some k → k ≠ g := fun k hk e => by
  obtain ⟨cur, hcur⟩ := h5.typed k hk
  rw [e, h2] at hcur
  cases hcur
 have n2 : ∀ k, v2.ownBlock = some k → k ≠ g := fun k hk e => by
  obtain ⟨cur, hcur⟩ := h6.typed k hk
  rw [e, h2] at hcur
  cases hcur
 refine ⟨h1, v1, v2, hs, h3, h4, ?_, ?_⟩
 ·rw [hb]; exact h5.moved (fun k hk => Below.heap_setCell _ ⟨g, i, none⟩ _ k (n1 k hk))
 ·rw [hw]; exact h6.moved (fun k hk => Below.heap_setCell _ ⟨g, i, none⟩ _ k (n2 k hk))
set_option maxHeartbeats 800000 in
set_option maxRecDepth 100000 in
theorem dev_asks (P : Nat → Prop) (g : Nat) (D : Dv) (w : World) (hq : DQ P g w D) (hf : -1 ≤ D.f) (hf2 : D.f ≤ 9223372036854775807) :
  Calls Tryd.prog 47 #[.pointer (some ⟨g, 0, none⟩)] w fun e w' => e = .returned (.int .i64 (dv_asks D).2) ∧ DQ P g w' (dv_asks D).1 ∧ Mv P w w' := by
 have hu := Tryd.underlying56
 have hu2 := Tryd.underlying25
 have hPg : P g := hq.1
 have HQ := Lib.hid hq
 obtain ⟨A1, c1, A2, c2, hrow, _⟩ := hq.all
 obtain ⟨g0, g1, g2, g3⟩ := blk_cells4 hrow
 have f2 := blk_frozen hrow 2
 have f3 := blk_frozen hrow 3
 clear hq hrow
 unfold dv_asks
 obtain ⟨db, dw, df, dd⟩ := D
 simp only at *
 by_cases c0 : df = 0
 ·subst c0
  rw [if_pos rfl]
  go_enter Tryd.func47, Tryd.ntmps47
  go_wp2
  go_ret
  exact ⟨rfl, HQ.out.put 3 _ _ rfl rfl (fun _ _ => by simp), (Mv.refl P w).set (p := ⟨g, 3, none⟩) (.inl hPg) _⟩
 ·rw [if_neg c0]
  have d0 : (df == 0) = false := beq_eq_false_iff_ne.mpr c0
  by_cases c1 : df = -1
  ·subst c1
   rw [if_pos rfl]
   go_enter Tryd.func47, Tryd.ntmps47
   go_wp2
   go_ret
   exact ⟨rfl, HQ.out.put 2 _ _ rfl rfl (fun _ _ => by simp), (Mv.refl P w).set (p := ⟨g, 2, none⟩) (.inl hPg) _⟩
  ·rw [if_neg c1]
   have hm : max (-1) (df - 1) = df - 1 := by omega
   have hp : 0 < df := by omega
   go_enter Tryd.func47, Tryd.ntmps47
   go_wp2
   go_ret
   exact ⟨rfl, HQ.out.put 2 _ _ rfl rfl (fun _ _ => by simp), (Mv.refl P w).set (p := ⟨g, 2, none⟩) (.inl hPg) _⟩

def slices_Clone_string.f (l0 : List (ByteArray)) : Option (List (ByteArray)) := if l0.length < 8796093022208 then some l0 else none
set_option maxHeartbeats 800000 in
set_option maxRecDepth 100000 in
theorem slices_Clone_string.calls (A0 : Option Addr) (c0 : Nat) (l0 : List (ByteArray)) (r : List (ByteArray)) (w : World) (hr0 : Kd.C Kd.string w A0 l0.length l0) (hc0 : l0.length ≤ c0) (h : slices_Clone_string.f l0 = some r) :
  Calls Tryd.prog 30 #[.slice A0 l0.length c0] w fun e w' => ∃ v0_ : Value, e = .returned (v0_) ∧ Kd.R Kd.string 9 w' w.heap.size (fun _ => True) v0_ r ∧ Below w.heap.size w w' := by
 unfold slices_Clone_string.f at h
 split at h
 rotate_left
 ·cases h
 rename_i hlen
 obtain rfl := Option.some.inj h
 clear h
 have HR0 := Lib.hid hr0
 have HB := Lib.hid (Below.refl w.heap.size w)
 cases A0 with
 | none =>
  have hl : l0 = [] := by
   rcases Nat.eq_zero_or_pos l0.length with h0 | h0
   ·exact List.eq_nil_of_length_eq_zero h0
   ·obtain ⟨ad, e, _⟩ := hr0.2.2 h0
    cases e
  subst hl
  clear hr0
  have he : ∀ w : World, (binOp .eql 22 (.slice none 0 c0) (.slice none 0 0)).run Tryd.prog w = .ok (.bool true) w := fun _ => rfl
  go_enter Tryd.func30, Tryd.ntmps30
  go_wp2
  go_ret
  exact ⟨_, rfl, Kd.R_nil _ _ _ _ _, HB.out⟩
 | some ad =>
  clear hr0
  have he : ∀ w : World, (binOp .eql 22 (.slice (some ad) l0.length c0) (.slice none 0 0)).run Tryd.prog w = .ok (.bool false) w := fun _ => rfl
  go_enter Tryd.func30, Tryd.ntmps30
  go_wp2_with (first | ((with_reducible refine gate_dst (N := 5) rfl ?_); refine Kd.R_lit Kd.string _ 9 ?hg (N := 5) ?hd (xs := ([] : List (ByteArray))) (inner := []) (ok := fun _ => True) (okp := fun _ => True) ?hr ?hp (fun _ hk => hk) trivial (Below.refl _ _) (Nat.le_refl _) (by simp) ?_; (case hd => rfl); (case hg => rfl); (case hr => first | (go_simp; done) | (go_simp; rfl)); (case hp => exact (Reps.none _ _)); intro v1 w3 ho4 hb hg_ hnew_; clear hg_ hnew_; have HO1 := Lib.hid (Kd.R_lower ho4 HB.out.size); have HB1 := Lib.hid (below_then HB.out HB.out.size hb); clear HB ho4 hb) | ((with_reducible refine gate_builtin (b := .append) (xs := #[.tmp 5, .tmp 6]) rfl ?_); at_builtin; refine Kd.R_append_rows Kd.string (w0 := w) w.heap.size rfl (.tmp 5) (.tmp 6) 22 9 (.string ⟨#[]⟩) 16 rfl Tryd.underlying22 info9 rfl (by decide) (by omega) v1 [] l0 _ _ _ (fun _ => True) (fun _ => False) rfl rfl HO1.out (Kd.C_below HR0.out HB1.out) (fun _ _ h => h) (fun _ h => h.elim) (fun _ _ => trivial) HB1.out HB1.out.size (by simp; omega) ?_; intro v2 w5 ho hb hg hat))
  go_ret
  exact ⟨_, rfl, ho, hb⟩


def api_Wait_38.f (l0 : List (S60)) : Option (List (S60)) := if l0.length < 5864062014805 then some l0 else none
set_option maxHeartbeats 800000 in
set_option maxRecDepth 100000 in
theorem api_Wait_38.calls (A0 : Option Addr) (c0 : Nat) (l0 : List (S60)) (r : List (S60)) (w : World) (hr0 : Kd.C k60 w A0 l0.length l0) (hc0 : l0.length ≤ c0) (h : api_Wait_38.f l0 = some r) :
  Calls Tryd.prog 38 #[.slice A0 l0.length c0] w fun e w' => ∃ v0_ : Value, e = .returned (v0_) ∧ Kd.R k60 60 w' w.heap.size (fun _ => True) v0_ r ∧ Below w.heap.size w w' := by
 unfold api_Wait_38.f at h
 split at h
 rotate_left
 ·cases h
 rename_i hlen
 obtain rfl := Option.some.inj h
 clear h
 have HR0 := Lib.hid hr0
 have HB := Lib.hid (Below.refl w.heap.size w)
 cases A0 with
 | none =>
  have hl : l0 = [] := by
   rcases Nat.eq_zero_or_pos l0.length with h0 | h0
   ·exact List.eq_nil_of_length_eq_zero h0
   ·obtain ⟨ad, e, _⟩ := hr0.2.2 h0
    cases e
  subst hl
  clear hr0
  have he : ∀ w : World, (binOp .eql 23 (.slice none 0 c0) (.slice none 0 0)).run Tryd.prog w = .ok (.bool true) w := fun _ => rfl
  go_enter Tryd.func38, Tryd.ntmps38
  go_wp2
  go_ret
  exact ⟨_, rfl, Kd.R_nil _ _ _ _ _, HB.out⟩
 | some ad =>
  clear hr0
  have he : ∀ w : World, (binOp .eql 23 (.slice (some ad) l0.length c0) (.slice none 0 0)).run Tryd.prog w = .ok (.bool false) w := fun _ => rfl
  go_enter Tryd.func38, Tryd.ntmps38
  go_wp2_with (first | ((with_reducible refine gate_dst (N := 5) rfl ?_); refine Kd.R_lit k60 _ 60 ?hg (N := 5) ?hd (xs := ([] : List (S60))) (inner := []) (ok := fun _ => True) (okp := fun _ => True) ?hr ?hp (fun _ hk => hk) trivial (Below.refl _ _) (Nat.le_refl _) (by simp) ?_; (case hd => rfl); (case hg => rfl); (case hr => first | (go_simp; done) | (go_simp; rfl)); (case hp => exact (Reps.none _ _)); intro v1 w3 ho4 hb hg_ hnew_; clear hg_ hnew_; have HO1 := Lib.hid (Kd.R_lower ho4 HB.out.size); have HB1 := Lib.hid (below_then HB.out HB.out.size hb); clear HB ho4 hb) | ((with_reducible refine gate_builtin (b := .append) (xs := #[.tmp 5, .tmp 6]) rfl ?_); at_builtin; refine Kd.R_append_rows k60 (w0 := w) w.heap.size rfl (.tmp 5) (.tmp 6) 23 60 (.agg #[(.int .i64 0), (.string ⟨#[]⟩)]) 24 rfl Tryd.underlying23 info60 rfl (by decide) (by omega) v1 [] l0 _ _ _ (fun _ => True) (fun _ => False) rfl rfl HO1.out (Kd.C_below HR0.out HB1.out) (fun _ _ h => h) (fun _ h => h.elim) (fun _ _ => trivial) HB1.out HB1.out.size (by simp; omega) ?_; intro v2 w5 ho hb hg hat))
  go_ret
  exact ⟨_, rfl, ho, hb⟩
theorem DQ.start {P : Nat → Prop} {B : Nat} {w : World} {v1 v2 : Value} {D : Dv} {ok1 ok2 : Nat → Prop} (h1 : Kd.R Kd.string 9 w B ok1 v1 D.b) (h2 : Kd.R k60 60 w B ok2 v2 D.w) (hB : B ≤ w.heap.size) (hP : ∀ k, B ≤ k → k < w.heap.size + 1 → P k) : DQ P w.heap.size (w.alloc (.cells #[v1, v2, .int .i64 D.f, .bool D.d] 56)) D := by
 letI : Inhabited S60 := ⟨z60⟩
 have t1 : TRow st_enc 1 9 w v1 D.b := TRow.ofR (d := Kd.string) (fun hp => hp) rfl h1
 have t2 : TRow wt_enc 2 60 w v2 D.w := TRow.ofR (d := k60) (fun hp => k60_openM hp) rfl h2
 have hb := below_alloc (Below.refl w.heap.size w) (.cells #[v1, v2, .int .i64 D.f, .bool D.d] 56)
 exact ⟨hP _ hB (by omega), v1, v2, blk_new w _, fun k hk => hP k (Kd.R_base h1 k hk) (by have := t1.lt k hk; omega), fun k hk => hP k (Kd.R_base h2 k hk) (by have := t2.lt k hk; omega), t1.moved (fun k hk => hb.block k (t1.lt k hk)), t2.moved (fun k hk => hb.block k (t2.lt k hk))⟩
def dv_open (D : Dv) : Int := if dv_check D = 0 then if D.d = true then 9 else 0 else dv_check D
def dv_zero : Dv := ⟨[], [], 0, false⟩
def dv_fit (D : Dv) : Prop := D.b.length < 8796093022208 ∧ D.w.length < 5864062014805 ∧ D.f ≤ 9223372036854775807
instance (D : Dv) : Decidable (dv_fit D) := by unfold dv_fit; infer_instance
set_option maxHeartbeats 2000000 in
set_option maxRecDepth 100000 in
theorem dev_open (A1 : Option Addr) (c1 : Nat) (A2 : Option Addr) (c2 : Nat) (D : Dv) (w : World) (hC1 : Kd.C Kd.string w A1 D.b.length D.b) (hl1 : D.b.length ≤ c1) (hC2 : Kd.C k60 w A2 D.w.length D.w) (hl2 : D.w.length ≤ c2) (hfit : dv_fit D) :
  Calls Tryd.prog 24 #[.agg #[.slice A1 D.b.length c1, .slice A2 D.w.length c2, .int .i64 D.f, .bool D.d]] w fun e w' => ∃ g, e = .returned (.tuple #[.pointer (some ⟨g, 0, none⟩), .int .i64 (dv_open D)]) ∧ DQ (fun k => w.heap.size ≤ k ∧ k < w'.heap.size) g w' (if dv_check D = 0 then D else dv_zero) ∧ Below w.heap.size w w' := by
 have hu := Tryd.underlying56
 have hu2 := Tryd.underlying25
 have hb := below_alloc (Below.refl w.heap.size w) (.cells #[.slice A1 D.b.length c1, .slice A2 D.w.length c2, .int .i64 D.f, .bool D.d] 25)
 have hn := blk_new w (.cells #[.slice A1 D.b.length c1, .slice A2 D.w.length c2, .int .i64 D.f, .bool D.d] 25)
 have HC1 := Lib.hid hC1
 have HC2 := Lib.hid hC2
 have HCH := Lib.hid (block_Check.calls A1 c1 D.b A2 c2 D.w D.f D.d (dv_check D) (w.alloc (.cells #[.slice A1 D.b.length c1, .slice A2 D.w.length c2, .int .i64 D.f, .bool D.d] 25)) (Kd.C_below hC1 hb) hl1 (Kd.C_below hC2 hb) hl2 rfl)
 have HB := Lib.hid hb
 have HN := Lib.hid hn
 have HFIT := Lib.hid hfit
 unfold dv_open
 clear hC1 hC2 hb hn hfit
 by_cases c : dv_check D = 0
 rotate_left
 ·rw [if_neg c, if_neg c]
  generalize dv_check D = r at c HCH ⊢
  have d : (r != 0) = true := bne_iff_ne.mpr c
  go_enter Tryd.func24, Tryd.ntmps24
  go_wp2_with (first | (go_at_call 29; refine HCH.out.mono ?_; rintro e w3 ⟨rfl, hb3⟩; have HB3 := Lib.hid (below_then HB.out HB.out.size hb3); clear hb3))
  go_ret2
  refine ⟨_, rfl, DQ.start (B := w.heap.size) (ok1 := fun _ => True) (ok2 := fun _ => True) (D := dv_zero) (Kd.R_nil _ _ _ _ _) (Kd.R_nil _ _ _ _ _) HB3.out.size (fun k hk hk2 => ⟨hk, by simpa using hk2⟩), below_alloc HB3.out _⟩
 rw [c] at HCH
 rw [if_pos c, if_pos c]
 clear c
 go_enter Tryd.func24, Tryd.ntmps24
 go_upto_region 4 with (first | (go_at_call 29; refine HCH.out.mono ?_; rintro e w3 ⟨rfl, hb3⟩; have HB3 := Lib.hid hb3; clear hb3))
 obtain ⟨s, hs⟩ : ∃ s, s = w.heap.size := ⟨_, rfl⟩
 have hrow := (HB3.out.block w.heap.size (by simp)).trans HN.out
 have hbw := below_then HB.out HB.out.size HB3.out
 have HBW := Lib.hid hbw
 rw [← hs] at hrow ⊢
 have HS := Lib.hid hs
 have HROW := Lib.hid hrow
 have mixed : Tryd.prog.follows Departure.mixedOrders = true := by kernel_rfl
 obtain ⟨g0, g1, g2, g3⟩ := blk_cells4 hrow
 clear hs hrow hbw
 refine start_ (n := 10) (S := fun w' => w'.cell? ⟨s, 0, none⟩ = some (.slice A1 D.b.length c1) ∧ w'.cell? ⟨s, 1, none⟩ = some (.slice A2 D.w.length c2)) (ds := [7, 9]) #[false, false, false, false, false, false, false, false, false, false] (by kernel_rfl) rfl rfl (⟨g0, g1⟩) (fun hHeld => ?_)
 refine pure_ (i := 0) (N := some 13) (v := ?_) (a' := ?_) #[true, false, false, false, false, false, false, false, false, false] rfl rfl (by kernel_rfl) (fun _ _ _ h => h) (Or.inl ⟨by rfl, ?_⟩) ?_ ?_
 rotate_left
 ·intro w'
  go_simp
  with_reducible rfl
 rotate_left
 ·simp only [Act.put, List.setIfInBounds_toArray, List.set_cons_zero, List.set_cons_succ, i64_w, i32_w]
  rfl
 refine take_ (i := 1) (N := some 14) (v := ?_) (a' := ?_) #[true, true, false, false, false, false, false, false, false, false] rfl rfl (by kernel_rfl) (fun _ _ _ h => h) (Or.inl ⟨by rfl, ?_⟩) hHeld ?_ ?_
 rotate_left
 ·rintro w' ⟨s0, s1⟩
  go_simp
  with_reducible rfl
 rotate_left
 ·simp only [Act.put, List.setIfInBounds_toArray, List.set_cons_zero, List.set_cons_succ, i64_w, i32_w]
  rfl
 refine pure_ (i := 3) (N := some 16) (v := ?_) (a' := ?_) #[true, true, false, true, false, false, false, false, false, false] rfl rfl (by kernel_rfl) (fun _ _ _ h => h) (Or.inl ⟨by rfl, ?_⟩) ?_ ?_
 rotate_left
 ·intro w'
  go_simp
  with_reducible rfl
 rotate_left
 ·simp only [Act.put, List.setIfInBounds_toArray, List.set_cons_zero, List.set_cons_succ, i64_w, i32_w]
  rfl
 refine take_ (i := 4) (N := some 17) (v := ?_) (a' := ?_) #[true, true, false, true, true, false, false, false, false, false] rfl rfl (by kernel_rfl) (fun _ _ _ h => h) (Or.inl ⟨by rfl, ?_⟩) hHeld ?_ ?_
 rotate_left
 ·rintro w' ⟨s0, s1⟩
  go_simp
  with_reducible rfl
 rotate_left
 ·simp only [Act.put, List.setIfInBounds_toArray, List.set_cons_zero, List.set_cons_succ, i64_w, i32_w]
  rfl
 refine one_ (i := 2) (N := some 15) #[true, true, true, true, true, false, false, false, false, false] rfl rfl (by kernel_rfl) (by decide) (fun K hK => ?_)
 refine call_ 30 #[.slice A1 D.b.length c1] rfl rfl (by go_simp) ?_
 refine (slices_Clone_string.calls A1 c1 D.b D.b _ (Kd.C_below HC1.out (below_drew1 HBW.out)) hl1 (by unfold slices_Clone_string.f; rw [if_pos HFIT.out.1])).mono ?_
 rintro e w4 ⟨v4, rfl, hr4, hb4⟩
 refine ⟨_, rfl, ?_⟩
 refine hK.out _ _ ⟨pw_cell_below hb4 hHeld.1, pw_cell_below hb4 hHeld.2⟩ (fun hHeld2 => ?_)
 clear hK K
 refine norm_ (a' := ?_) ?_ ?_
 rotate_left
 ·show Act.put _ (some 15) _ = _
  simp only [Act.put, List.setIfInBounds_toArray, List.set_cons_zero, List.set_cons_succ, i64_w, i32_w]
  rfl
 refine pure_ (i := 6) (N := some 19) (v := ?_) (a' := ?_) #[true, true, true, true, true, false, true, false, false, false] rfl rfl (by kernel_rfl) (fun _ _ _ h => h) (Or.inl ⟨by rfl, ?_⟩) ?_ ?_
 rotate_left
 ·intro w'
  go_simp
  with_reducible rfl
 rotate_left
 ·simp only [Act.put, List.setIfInBounds_toArray, List.set_cons_zero, List.set_cons_succ, i64_w, i32_w]
  rfl
 refine one_ (i := 5) (N := some 18) #[true, true, true, true, true, true, true, false, false, false] rfl rfl (by kernel_rfl) (by decide) (fun K hK => ?_)
 refine call_ 38 #[.slice A2 D.w.length c2] rfl rfl (by go_simp) ?_
 refine (api_Wait_38.calls A2 c2 D.w D.w _ (Kd.C_below HC2.out (below_then (below_drew1 HBW.out) (below_drew1 HBW.out).size hb4)) hl2 (by unfold api_Wait_38.f; rw [if_pos HFIT.out.2.1])).mono ?_
 rintro e w5 ⟨v5, rfl, hr5, hb5⟩
 refine ⟨_, rfl, ?_⟩
 refine hK.out _ _ ⟨pw_cell_below hb5 hHeld2.1, pw_cell_below hb5 hHeld2.2⟩ (fun hHeld3 => ?_)
 clear hK K
 refine norm_ (a' := ?_) ?_ ?_
 rotate_left
 ·show Act.put _ (some 18) _ = _
  simp only [Act.put, List.setIfInBounds_toArray, List.set_cons_zero, List.set_cons_succ, i64_w, i32_w]
  rfl
 have hrow5 := (hb5.block s (Nat.lt_of_lt_of_le (blk_lt HROW.out) hb4.size)).trans ((hb4.block s (blk_lt HROW.out)).trans HROW.out)
 have hr4' := Kd.R_below hr4 hb5
 have hbw5 := below_then (below_then (below_drew1 HBW.out) (below_drew1 HBW.out).size hb4) (below_then (below_drew1 HBW.out) (below_drew1 HBW.out).size hb4).size hb5
 have hle : w.heap.size ≤ w3.heap.size := HBW.out.size
 have hR4 := Kd.R_types hr4' hrow5 (by decide)
 have hR5 := Kd.R_types hr5 hrow5 (by decide)
 have hR4b := Kd.R_far hR4 (p := ⟨s, 1, none⟩) (fun k hk => hk.2) v5
 have hrs := blk_set (blk_set hrow5 0 v4) 1 v5
 obtain ⟨q0, q1, q2, q3⟩ := blk_cells4 hrow5
 have z0 := blk_frozen hrow5 0
 have z1 := blk_frozen hrow5 1
 have HR4 := Lib.hid (Kd.R_far (Kd.R_far hR4 (p := ⟨s, 0, none⟩) (fun k hk => hk.2) v4) (p := ⟨s, 1, none⟩) (fun k hk => hk.2) v5)
 have HR5 := Lib.hid (Kd.R_far (Kd.R_far hR5 (p := ⟨s, 0, none⟩) (fun k hk => hk.2) v4) (p := ⟨s, 1, none⟩) (fun k hk => hk.2) v5)
 have HRS := Lib.hid hrs
 have hsb : w.heap.size ≤ s := by rw [HS.out]; exact Nat.le_refl _
 have HB5 := Lib.hid ((hbw5.setCell (p := ⟨s, 0, none⟩) hsb v4).setCell (p := ⟨s, 1, none⟩) hsb v5)
 obtain ⟨B4, e4, rfl⟩ := Kd.R_slice hr4
 obtain ⟨B5, e5, rfl⟩ := Kd.R_slice hr5
 have hle3 : w.heap.size ≤ w3.drew.heap.size := hle
 have hle4 : w.heap.size ≤ w4.heap.size := Nat.le_trans hle3 hb4.size
 clear hHeld hHeld2 hHeld3 hr4 hr5 hr4' hbw5 hR4 hR5 hR4b hrs hb4 hb5 hrow5 hsb hle
 refine last_ (i := 7) (N := none) #[true, true, true, true, true, true, true, true, false, false] rfl rfl (by kernel_rfl) (by decide) (fun K hK => ?_)
 refine skip_ (w1 := ?_) (by rfl) rfl ?_ ?_
 rotate_left
 ·go_simp
  rfl
 refine hK.out _ _ ?_
 clear hK K
 refine pure_ (i := 8) (N := some 20) (v := ?_) (a' := ?_) #[true, true, true, true, true, true, true, true, true, false] rfl rfl (by kernel_rfl) (fun _ _ _ h => h) (Or.inl ⟨by rfl, ?_⟩) ?_ ?_
 rotate_left
 ·intro w'
  go_simp
  with_reducible rfl
 rotate_left
 ·simp only [Act.put, List.setIfInBounds_toArray, List.set_cons_zero, List.set_cons_succ, i64_w, i32_w]
  rfl
 refine last_ (i := 9) (N := none) #[true, true, true, true, true, true, true, true, true, true] rfl rfl (by kernel_rfl) (by decide) (fun K hK => ?_)
 refine skip_ (w1 := ?_) (by rfl) rfl ?_ ?_
 rotate_left
 ·go_simp
  rfl
 refine hK.out _ _ ?_
 clear hK K
 refine done_ (by kernel_rfl) ?_
 generalize ((w5.setCell ⟨s, 0, none⟩ (.slice B4 D.b.length e4)).setCell ⟨s, 1, none⟩ (.slice B5 D.w.length e5)) = w6 at HR4 HR5 HRS HB5 ⊢
 have hrs := HRS.out
 simp only [List.setIfInBounds_toArray, List.set_cons_zero, List.set_cons_succ] at hrs
 obtain ⟨y0, y1, y2, y3⟩ := blk_cells4 hrs
 have hne := World.new_ne w6 ⟨s, 0, none⟩ y0
 have hne2 : s ≠ w6.heap.size := fun e => hne e.symm
 have y4 : ∀ o, (w6.alloc o).cell? ⟨s, 3, none⟩ = some (.bool D.d) := fun o => (World.cell?_alloc_lt _ _ _ (World.block_lt_of_cell? w6 ⟨s, 3, none⟩ y3)).trans y3
 clear hrs q0 q1 q2 q3 z0 z1 g0 g1 g2 g3
 obtain ⟨db, dw, df, dd⟩ := D
 simp only at *
 cases dd with
 | true =>
  go_wp2
  go_ret2
  exact ⟨_, rfl, DQ.start (B := w.heap.size) (D := ⟨db, dw, df, true⟩) (Kd.R_lower HR4.out hle3) (Kd.R_lower HR5.out hle4) HB5.out.size (fun k hk hk2 => ⟨hk, by simpa using hk2⟩), below_alloc HB5.out _⟩
 | false =>
  go_wp2
  go_ret2
  exact ⟨_, rfl, DQ.start (B := w.heap.size) (D := ⟨db, dw, df, false⟩) (Kd.R_lower HR4.out hle3) (Kd.R_lower HR5.out hle4) HB5.out.size (fun k hk hk2 => ⟨hk, by simpa using hk2⟩), below_alloc HB5.out _⟩
def dv_dev (D : Dv) : Dv := if dv_check D = 0 then D else dv_zero
def dv_five (p : Dv × Int) : List ByteArray × (List (S60)) × Int × Bool × Int := (p.1.b, p.1.w, p.1.f, p.1.d, p.2)
theorem DQ.toV {P : Nat → Prop} {g B : Nat} {w : World} {D : Dv} {v1 v2 : Value} (h : DQ P g w D) (hv : w.heap[g]? = some (.cells #[v1, v2, .int .i64 D.f, .bool D.d] 56 (0, 0))) (hP : ∀ k, P k → B ≤ k) : Kd.V Kd.string 9 w B (fun k_ => (B ≤ k_)) v1 D.b ∧ Kd.V k60 60 w B (fun k_ => (B ≤ k_)) v2 D.w := by
 obtain ⟨h1, u1, u2, h2, h3, h4, h5, h6⟩ := h
 rw [h2] at hv
 cases hv
 exact ⟨h5.toV (d := Kd.string) (fun _ _ => rfl) (fun _ => rfl) rfl B (fun k hk => hP k (h3 k hk)), h6.toV (d := k60) (fun w x => k60_mk w x) (fun _ => rfl) rfl B (fun k hk => hP k (h4 k hk))⟩
theorem dev_out {P : Nat → Prop} {g s : Nat} {w0 W : World} {D : Dv} {v1 v2 : Value} {cur : Array Value} (hq : DQ P g W D) (hrow : W.heap[g]? = some (.cells #[v1, v2, .int .i64 D.f, .bool D.d] 56 (0, 0))) (hB : Below w0.heap.size w0 W) (hs : w0.heap.size ≤ s) (hP : ∀ k, P k → w0.heap.size ≤ k ∧ k ≠ s) (hcur : W.heap[s]? = some (.cells cur 25 (0, 0))) :
  (W.setRow s #[v1, v2, .int .i64 D.f, .bool D.d]).heap[s]? = some (.cells #[v1, v2, .int .i64 D.f, .bool D.d] 25 (0, 0)) ∧ Kd.V Kd.string 9 (W.setRow s #[v1, v2, .int .i64 D.f, .bool D.d]) w0.heap.size (fun k_ => (w0.heap.size ≤ k_)) v1 D.b ∧ Kd.V k60 60 (W.setRow s #[v1, v2, .int .i64 D.f, .bool D.d]) w0.heap.size (fun k_ => (w0.heap.size ≤ k_)) v2 D.w ∧ Below w0.heap.size w0 (W.setRow s #[v1, v2, .int .i64 D.f, .bool D.d]) := by
 have hq2 : DQ P g (W.setRow s #[v1, v2, .int .i64 D.f, .bool D.d]) D := hq.moved (fun k hp hk => setRow_other W s k _ (hP k hp).2)
 have hrow2 := (setRow_other W s g #[v1, v2, .int .i64 D.f, .bool D.d] (hP g hq.1).2).trans hrow
 obtain ⟨a, b⟩ := hq2.toV hrow2 (fun k hk => (hP k hk).1)
 exact ⟨setRow_heap W s cur _ 25 _ hcur, a, b, keys_below_setRow hB hs _⟩
theorem dv_open_zero {D : Dv} (h : dv_open D = 0) : dv_check D = 0 := by
 unfold dv_open at h
 split at h
 ·assumption
 ·exact h
theorem dv_check_ok {D : Dv} (h : dv_check D = 0) : dv_ok D = true := by
 unfold dv_check at h
 split at h
 ·assumption
 ·cases h
theorem dv_ok_fuse {D : Dv} (h : dv_ok D = true) : -1 ≤ D.f := by
 unfold dv_ok at h
 simp only [Bool.and_eq_true, decide_eq_true_eq] at h
 exact h.2.2.1
def dv_there (D : Dv) (at_ : Int) : Bool := decide (0 ≤ at_) && decide (at_ < (D.b.length : Int))
set_option maxHeartbeats 400000 in
set_option maxRecDepth 100000 in
theorem dev_there (g : Nat) (D : Dv) (at_ : Int) (w : World) (hD : DR w g D) :
  Calls Tryd.prog 39 #[.pointer (some ⟨g, 0, none⟩), .int .i64 at_] w fun e w' => e = .returned (.bool (dv_there D at_)) ∧ w' = w := by
 have hu := Tryd.underlying56
 have hu2 := Tryd.underlying25
 obtain ⟨A1, c1, A2, c2, hrow, hl1, hl2, hC1, hC2⟩ := hD
 obtain ⟨g0, g1, g2, g3⟩ := blk_cells4 hrow
 clear hrow hC1 hC2
 unfold dv_there
 by_cases h0 : 0 ≤ at_
 ·have q0 : decide (0 ≤ at_) = true := decide_eq_true h0
  rw [q0, Bool.true_and]
  obtain ⟨r, hr⟩ : ∃ r, r = decide (at_ < (D.b.length : Int)) := ⟨_, rfl⟩
  rw [← hr]
  have hr2 := hr.symm
  clear hr
  go_enter Tryd.func39, Tryd.ntmps39
  go_wp2
  go_ret
  exact ⟨by first | rfl | (rw [hr2]; done) | (rw [← hr2]; done) | (simp_all; done), rfl⟩
 ·have q0 : decide (0 ≤ at_) = false := decide_eq_false h0
  rw [q0, Bool.false_and]
  go_enter Tryd.func39, Tryd.ntmps39
  go_wp2
  go_ret
  exact ⟨rfl, rfl⟩
def dv_read (D : Dv) (at_ : Int) : ByteArray × Int := if dv_there D at_ = true then (dv_has D at_, 0) else (⟨#[]⟩, 1)
set_option maxHeartbeats 400000 in
set_option maxRecDepth 100000 in
theorem dev_read (g : Nat) (D : Dv) (at_ : Int) (w : World) (hD : DR w g D) :
  Calls Tryd.prog 25 #[.pointer (some ⟨g, 0, none⟩), .int .i64 at_] w fun e w' => e = .returned (.tuple #[.string (dv_read D at_).1, .int .i64 (dv_read D at_).2]) ∧ Below w.heap.size w w' := by
 have HT := dev_there g D at_ w hD
 have HH := fun (h : dv_there D at_ = true) => dev_has g D at_ w hD (by unfold dv_there at h; simp at h; exact h.1) (by unfold dv_there at h; simp at h; exact h.2)
 clear hD
 unfold dv_read
 generalize dv_there D at_ = r at HT HH ⊢
 cases r with
 | true =>
  have HH2 := HH rfl
  rw [if_pos rfl]
  generalize dv_has D at_ = s at HH2 ⊢
  clear HH
  go_enter Tryd.func25, Tryd.ntmps25
  go_wp2_with (first | (go_at_call 39; refine HT.mono ?_; rintro e w3 ⟨rfl, rfl⟩) | (go_at_call 40; refine HH2.mono ?_; rintro e w3 ⟨rfl, hb3⟩))
  go_ret2
  exact ⟨rfl, hb3⟩
 | false =>
  rw [if_neg (by decide)]
  clear HH
  go_enter Tryd.func25, Tryd.ntmps25
  go_wp2_with (first | (go_at_call 39; refine HT.mono ?_; rintro e w3 ⟨rfl, rfl⟩))
  go_ret2
  exact ⟨rfl, Below.refl _ _⟩
def dv_apply (ws : List S60) (b : List ByteArray) : List ByteArray := ws.foldl (fun b x => b.set x.f0.toNat x.f1) b
def dv_sync (D : Dv) : Dv × Int := if (dv_asks D).2 = 0 then (⟨dv_apply (dv_asks D).1.w (dv_asks D).1.b, [], (dv_asks D).1.f, (dv_asks D).1.d⟩, 0) else dv_asks D
theorem dv_apply_len (ws : List S60) (b : List ByteArray) : (dv_apply ws b).length = b.length := by
 unfold dv_apply
 induction ws generalizing b with
 | nil => rfl
 | cons x ws ih => rw [List.foldl_cons, ih, List.length_set]
theorem dv_apply_snoc (ws : List S60) (x : S60) (b : List ByteArray) : dv_apply (ws ++ [x]) b = (dv_apply ws b).set x.f0.toNat x.f1 := by simp [dv_apply]
theorem take_rd (ws : List S60) (k : Nat) (h : k < ws.length) : ws.take (k + 1) = ws.take k ++ [rd_T60 ws (k : Int)] := by
 rw [List.take_succ_eq_append_getElem h]
 unfold rd_T60
 rw [Int.toNat_natCast, List.getD_eq_getElem?_getD, List.getElem?_eq_getElem h]; rfl
def dv_inw (D : Dv) : Prop := ∀ x ∈ D.w, 0 ≤ x.f0 ∧ x.f0 < (D.b.length : Int)
def DL (P : Nat → Prop) (g : Nat) (A1 : Option Addr) (c1 : Nat) (A2 : Option Addr) (c2 : Nat) (f : Int) (d : Bool) (w0 wr : World) (b : List ByteArray) (ws : List S60) : Prop :=
 wr.heap[g]? = some (.cells #[.slice A1 b.length c1, .slice A2 ws.length c2, .int .i64 f, .bool d] 56 (0, 0)) ∧ TRow st_enc 1 9 wr (.slice A1 b.length c1) b ∧ TRow wt_enc 2 60 wr (.slice A2 ws.length c2) ws ∧ (∀ k, (Value.slice A1 b.length c1).ownBlock = some k → P k) ∧ (∀ k, (Value.slice A2 ws.length c2).ownBlock = some k → P k) ∧ Mv P w0 wr
theorem DL.below {P : Nat → Prop} {g : Nat} {A1 : Option Addr} {c1 : Nat} {A2 : Option Addr} {c2 : Nat} {f : Int} {d : Bool} {w0 wr w1 : World} {b : List ByteArray} {ws : List S60} (h : DL P g A1 c1 A2 c2 f d w0 wr b ws) (hb : Below wr.heap.size wr w1) : DL P g A1 c1 A2 c2 f d w0 w1 b ws := by
 obtain ⟨h1, h2, h3, h4, h5, h6⟩ := h
 exact ⟨(hb.block g (blk_lt h1)).trans h1, h2.moved (fun k hk => hb.block k (h2.lt k hk)), h3.moved (fun k hk => hb.block k (h3.lt k hk)), h4, h5, h6.below hb⟩
theorem DL.set {P : Nat → Prop} {g b1 : Nat} {c1 : Nat} {A2 : Option Addr} {c2 : Nat} {f : Int} {d : Bool} {w0 wr : World} {b : List ByteArray} {ws : List S60} (h : DL P g (some ⟨b1, 0, none⟩) c1 A2 c2 f d w0 wr b ws) {i : Nat} (hi : i < b.length) (s : ByteArray) : DL P g (some ⟨b1, 0, none⟩) c1 A2 c2 f d w0 (wr.setCell ⟨b1, i, none⟩ (.string s)) (b.set i s) ws := by
 obtain ⟨h1, h2, h3, h4, h5, h6⟩ := h
 obtain ⟨cur1, hcur1⟩ := h2.typed b1 rfl
 have hn1 : g ≠ b1 := fun e => by rw [e, hcur1] at h1; cases h1
 have ht := h2.set (fun _ => rfl) hi s
 have he : wr.setCells b1 (i * 1) (st_enc s) = wr.setCell ⟨b1, i, none⟩ (.string s) := by rw [Nat.mul_one]; rfl
 rw [he] at ht
 have hP := h4 b1 rfl
 refine ⟨?_, ?_, ?_, ?_, h5, h6.set (p := ⟨b1, i, none⟩) (.inl hP) _⟩
 ·rw [List.length_set]; exact (Below.heap_setCell _ ⟨b1, i, none⟩ _ g hn1).trans h1
 ·rw [List.length_set]; exact ht
 ·refine h3.moved (fun k hk => Below.heap_setCell _ ⟨b1, i, none⟩ _ k (fun e => ?_))
  obtain ⟨cur2, hcur2⟩ := h3.typed k hk
  simp only at e
  rw [e, hcur1] at hcur2
  cases hcur2
 ·rw [List.length_set]; exact h4
set_option maxHeartbeats 2000000 in
set_option maxRecDepth 100000 in
theorem dev_sync (P : Nat → Prop) (g : Nat) (D : Dv) (w : World) (hP : ∀ k, P k → k < w.heap.size) (hq : DQ P g w D) (hf : -1 ≤ D.f) (hf2 : D.f ≤ 9223372036854775807) (hin : dv_inw D) :
  Calls Tryd.prog 28 #[.pointer (some ⟨g, 0, none⟩)] w fun e w' => e = .returned (.int .i64 (dv_sync D).2) ∧ DQ P g w' (dv_sync D).1 ∧ Mv P w w' := by
 have hu := Tryd.underlying56
 have hu2 := Tryd.underlying25
 have hu3 := Tryd.underlying60
 have HA := dev_asks P g D w hq hf hf2
 have hin2 : dv_inw (dv_asks D).1 := by unfold dv_asks; split <;> exact hin
 clear hq
 unfold dv_sync
 generalize dv_asks D = p at HA hin2 ⊢
 obtain ⟨E, why⟩ := p
 simp only at HA hin2 ⊢
 by_cases c : why = 0
 rotate_left
 ·rw [if_neg c]
  have d : (why != 0) = true := bne_iff_ne.mpr c
  clear hin hin2
  go_enter Tryd.func28, Tryd.ntmps28
  go_wp2_with (go_at_call 47; refine HA.mono ?_; rintro e w3 ⟨rfl, hq3, hm3⟩; have HQ3 := Lib.hid hq3; have HM3 := Lib.hid hm3; clear hq3 hm3)
  go_ret
  exact ⟨rfl, HQ3.out, HM3.out⟩
 subst c
 rw [if_pos rfl]
 have HIN := Lib.hid hin2
 have HP := Lib.hid hP
 clear hin hin2 hf hf2 hP
 go_enter Tryd.func28, Tryd.ntmps28
 go_upto_block 0 with (go_at_call 47; refine HA.mono ?_; rintro e w3 ⟨rfl, hq3, hm3⟩; have HQ3 := Lib.hid hq3; have HM3 := Lib.hid hm3; obtain ⟨A1, c1, A2, c2, hrow, ht1, ht2, hp1, hp2⟩ := hq3.all; obtain ⟨g0, g1, g2, g3⟩ := blk_cells4 hrow; have HL := Lib.hid (show DL P g A1 c1 A2 c2 E.f E.d w w3 E.b E.w from ⟨hrow, ht1, ht2, hp1, hp2, hm3⟩); clear hq3 hm3 hrow ht1 ht2 hp1 hp2)
 have hPg : P g := HQ3.out.1
 clear HQ3 HM3 HA g0 g1 g2 g3
 have hmax : E.w.length ≤ 9223372036854775807 := HL.out.2.2.1.max
 go_wp2
 go_loopw [17] (fun v17 wr => ∃ (k : Nat), v17 = .int .i64 (k : Int) ∧ k ≤ E.w.length ∧ Hid (DL P g A1 c1 A2 c2 E.f E.d w wr (dv_apply (E.w.take k) E.b) E.w)) (fun v17 _ => E.w.length - (intOf v17).toNat)
 case atStart => exact ⟨0, rfl, Nat.zero_le _, HL⟩
 case round =>
  clear HL
  obtain ⟨k, rfl, hk, HL⟩ := hrel
  by_cases hlt : k < E.w.length
  rotate_left
  ·obtain rfl : k = E.w.length := by omega
   obtain ⟨h1, h2, h3, h4, h5, h6⟩ := HL.out
   rw [List.take_length] at h1 h2 h4
   have hD : DQ P g wr ⟨dv_apply E.w E.b, E.w, E.f, E.d⟩ := ⟨hPg, _, _, h1, h4, h5, h2, h3⟩
   obtain ⟨g0, g1, g2, g3⟩ := blk_cells4 h1
   have f1 := blk_frozen h1 1
   have q1 : ¬ ((E.w.length : Int) < (E.w.length : Int)) := by omega
   have HD := Lib.hid hD
   have H1 := Lib.hid h1
   have H2 := Lib.hid h2
   have H4 := Lib.hid h4
   have H6 := Lib.hid h6
   clear h1 h2 h3 h4 h5 h6 hD
   go_wp2
   go_ret
   have hs := blk_set H1.out 1 (.slice none 0 0)
   simp only [List.setIfInBounds_toArray, List.set_cons_zero, List.set_cons_succ] at hs
   refine ⟨rfl, ⟨hPg, _, _, hs, H4.out, fun k hk => by simp [Value.ownBlock] at hk, H2.out.moved (fun k hk => Below.heap_setCell _ ⟨g, 1, none⟩ _ k (fun e => ?_)), TRow.nil _ _ _ _⟩, H6.out.set (p := ⟨g, 1, none⟩) (.inl hPg) _⟩
   obtain ⟨cur, hcur⟩ := H2.out.typed k hk
   simp only at e
   have := H1.out
   rw [e, this] at hcur
   cases hcur
  ·have q1 : ((k : Int) < (E.w.length : Int)) := by omega
   have q0 : (0 : Int) ≤ (k : Int) := by omega
   obtain ⟨h1, h2, h3, h4, h5, h6⟩ := HL.out
   obtain ⟨ad, e0, hx0, hx1⟩ := at_T60 (wt_reads h3) (k : Int) q0 q1
   cases e0
   simp only [Int.toNat_natCast] at hx0 hx1
   have hxin := HIN.out (rd_T60 E.w (k : Int)) (by
    unfold rd_T60
    rw [Int.toNat_natCast, List.getD_eq_getElem?_getD, List.getElem?_eq_getElem hlt]
    exact List.getElem_mem hlt)
   have htk := take_rd E.w k hlt
   have hal := dv_apply_len (E.w.take k) E.b
   have hsn := dv_apply_snoc (E.w.take k) (rd_T60 E.w (k : Int)) E.b
   rw [← htk] at hsn
   obtain ⟨x, hx⟩ : ∃ x, x = rd_T60 E.w (k : Int) := ⟨_, rfl⟩
   rw [← hx] at hx0 hx1 hxin hsn
   obtain ⟨bb, hbb⟩ : ∃ bb, bb = dv_apply (E.w.take k) E.b := ⟨_, rfl⟩
   rw [← hbb] at h1 h2 h4 hal hsn HL
   have HSN := Lib.hid hsn
   clear hsn hbb hx htk
   have hpos : 0 < bb.length := by omega
   obtain ⟨b1, cap1, cur1, he1, _⟩ := h2.form hpos
   injection he1 with he1 _ _
   subst he1
   obtain ⟨cur, hcur⟩ := h2.typed b1 rfl
   have hn1 : g ≠ b1 := fun e => by rw [e, hcur] at h1; cases h1
   have HL2 := Lib.hid (HL.out.below (below_drew1 (below_alloc (Below.refl wr.heap.size wr) (.cells #[.int .i64 x.f0, .string x.f1] 60))))
   obtain ⟨so, hold⟩ : ∃ so, wr.cell? ⟨b1, x.f0.toNat, none⟩ = some (.string so) := by
    have hold := h2.cell (i := x.f0.toNat) (x := bb[x.f0.toNat]'(by omega)) (List.getElem?_eq_getElem (by omega)) (t := 0) (u := .string (bb[x.f0.toNat]'(by omega))) rfl
    simp only [Nat.mul_one, Nat.add_zero] at hold
    exact ⟨_, hold⟩
   have hfz := h2.frozen x.f0.toNat
   obtain ⟨g0, g1, g2, g3⟩ := blk_cells4 h1
   have hne1 : wr.heap.size ≠ g := World.new_ne wr ⟨g, 0, none⟩ g0
   have hne2 : wr.heap.size ≠ b1 := World.new_ne wr ⟨b1, _, none⟩ hold
   have y0 : (wr.alloc (.cells #[.int .i64 x.f0, .string x.f1] 60)).cell? ⟨g, 0, none⟩ = some (.slice (some ⟨b1, 0, none⟩) bb.length c1) := (World.cell?_alloc_lt _ _ _ (World.block_lt_of_cell? wr ⟨g, 0, none⟩ g0)).trans g0
   have y1 : (wr.alloc (.cells #[.int .i64 x.f0, .string x.f1] 60)).cell? ⟨b1, x.f0.toNat, none⟩ = some (.string so) := (World.cell?_alloc_lt _ _ _ (World.block_lt_of_cell? wr ⟨b1, _, none⟩ hold)).trans hold
   have y2 : (wr.alloc (.cells #[.int .i64 x.f0, .string x.f1] 60)).frozen? ⟨b1, x.f0.toNat, none⟩ = false := blk_frozen (blk_alloc hcur _) _
   have yb := blk_new wr (.cells #[.int .i64 x.f0, .string x.f1] 60)
   obtain ⟨yb0, yb1⟩ := (show (wr.alloc (.cells #[.int .i64 x.f0, .string x.f1] 60)).cell? ⟨wr.heap.size, 0, none⟩ = some (.int .i64 x.f0) ∧ (wr.alloc (.cells #[.int .i64 x.f0, .string x.f1] 60)).cell? ⟨wr.heap.size, 1, none⟩ = some (.string x.f1) from ⟨blk_cell yb 0, blk_cell yb 1⟩)
   have xq0 : 0 ≤ x.f0 := hxin.1
   have xq1 : x.f0 < (bb.length : Int) := by omega
   have mixed : Tryd.prog.follows Departure.mixedOrders = true := by kernel_rfl
   have HAL := Lib.hid hal
   clear hal h1 h2 h3 h4 h5 h6 hcur hfz g1 g2 g3 yb hxin
   go_upto_region 7 with fail
   generalize wr.heap.size = q at yb0 yb1 hne1 hne2 HL2 ⊢
   generalize (wr.alloc (.cells #[.int .i64 x.f0, .string x.f1] 60)) = W1 at y0 y1 y2 yb0 yb1 HL2 ⊢
   clear hx0 hx1 g0 hold HL
   refine start_ (n := 11) (S := fun w' => w'.cell? ⟨g, 0, none⟩ = some (.slice (some ⟨b1, 0, none⟩) bb.length c1) ∧ w'.cell? ⟨q, 0, none⟩ = some (.int .i64 x.f0) ∧ w'.cell? ⟨q, 1, none⟩ = some (.string x.f1)) (ds := [10]) #[false, false, false, false, false, false, false, false, false, false, false] (by kernel_rfl) rfl rfl (⟨y0, yb0, yb1⟩) (fun hHeld => ?_)
   refine pure_ (i := 0) (N := some 21) (v := ?_) (a' := ?_) #[true, false, false, false, false, false, false, false, false, false, false] rfl rfl (by kernel_rfl) (fun _ _ _ h => h) (Or.inl ⟨by rfl, ?_⟩) ?_ ?_
   rotate_left
   ·intro w'
    go_simp
    with_reducible rfl
   rotate_left
   ·simp only [Act.put, List.setIfInBounds_toArray, List.set_cons_zero, List.set_cons_succ, i64_w, i32_w]
    rfl
   refine pure_ (i := 1) (N := some 22) (v := ?_) (a' := ?_) #[true, true, false, false, false, false, false, false, false, false, false] rfl rfl (by kernel_rfl) (fun _ _ _ h => h) (Or.inl ⟨by rfl, ?_⟩) ?_ ?_
   rotate_left
   ·intro w'
    go_simp
    with_reducible rfl
   rotate_left
   ·simp only [Act.put, List.setIfInBounds_toArray, List.set_cons_zero, List.set_cons_succ, i64_w, i32_w]
    rfl
   refine pure_ (i := 2) (N := some 23) (v := ?_) (a' := ?_) #[true, true, true, false, false, false, false, false, false, false, false] rfl rfl (by kernel_rfl) (fun _ _ _ h => h) (Or.inl ⟨by rfl, ?_⟩) ?_ ?_
   rotate_left
   ·intro w'
    go_simp
    with_reducible rfl
   rotate_left
   ·simp only [Act.put, List.setIfInBounds_toArray, List.set_cons_zero, List.set_cons_succ, i64_w, i32_w]
    rfl
   refine pure_ (i := 3) (N := some 24) (v := ?_) (a' := ?_) #[true, true, true, true, false, false, false, false, false, false, false] rfl rfl (by kernel_rfl) (fun _ _ _ h => h) (Or.inl ⟨by rfl, ?_⟩) ?_ ?_
   rotate_left
   ·intro w'
    go_simp
    with_reducible rfl
   rotate_left
   ·simp only [Act.put, List.setIfInBounds_toArray, List.set_cons_zero, List.set_cons_succ, i64_w, i32_w]
    rfl
   refine take_ (i := 4) (N := some 25) (v := ?_) (a' := ?_) #[true, true, true, true, true, false, false, false, false, false, false] rfl rfl (by kernel_rfl) (fun _ _ _ h => h) (Or.inl ⟨by rfl, ?_⟩) hHeld ?_ ?_
   rotate_left
   ·rintro w' ⟨s0, s1, s2⟩
    go_simp
    with_reducible rfl
   rotate_left
   ·simp only [Act.put, List.setIfInBounds_toArray, List.set_cons_zero, List.set_cons_succ, i64_w, i32_w]
    rfl
   refine pure_ (i := 5) (N := some 26) (v := ?_) (a' := ?_) #[true, true, true, true, true, true, false, false, false, false, false] rfl rfl (by kernel_rfl) (fun _ _ _ h => h) (Or.inl ⟨by rfl, ?_⟩) ?_ ?_
   rotate_left
   ·intro w'
    go_simp
    with_reducible rfl
   rotate_left
   ·simp only [Act.put, List.setIfInBounds_toArray, List.set_cons_zero, List.set_cons_succ, i64_w, i32_w]
    rfl
   refine take_ (i := 6) (N := some 27) (v := ?_) (a' := ?_) #[true, true, true, true, true, true, true, false, false, false, false] rfl rfl (by kernel_rfl) (fun _ _ _ h => h) (Or.inl ⟨by rfl, ?_⟩) hHeld ?_ ?_
   rotate_left
   ·rintro w' ⟨s0, s1, s2⟩
    go_simp
    with_reducible rfl
   rotate_left
   ·simp only [Act.put, List.setIfInBounds_toArray, List.set_cons_zero, List.set_cons_succ, i64_w, i32_w]
    rfl
   refine pure_ (i := 7) (N := some 28) (v := ?_) (a' := ?_) #[true, true, true, true, true, true, true, true, false, false, false] rfl rfl (by kernel_rfl) (fun _ _ _ h => h) (Or.inl ⟨by rfl, ?_⟩) ?_ ?_
   rotate_left
   ·intro w'
    go_simp
    with_reducible rfl
   rotate_left
   ·simp only [Act.put, List.setIfInBounds_toArray, List.set_cons_zero, List.set_cons_succ, i64_w, i32_w]
    rfl
   refine take_ (i := 8) (N := some 29) (v := ?_) (a' := ?_) #[true, true, true, true, true, true, true, true, true, false, false] rfl rfl (by kernel_rfl) (fun _ _ _ h => h) (Or.inl ⟨by rfl, ?_⟩) hHeld ?_ ?_
   rotate_left
   ·rintro w' ⟨s0, s1, s2⟩
    go_simp
    with_reducible rfl
   rotate_left
   ·simp only [Act.put, List.setIfInBounds_toArray, List.set_cons_zero, List.set_cons_succ, i64_w, i32_w]
    rfl
   refine pure_ (i := 9) (N := some 30) (v := ?_) (a' := ?_) #[true, true, true, true, true, true, true, true, true, true, false] rfl rfl (by kernel_rfl) (fun _ _ _ h => h) (Or.inl ⟨by rfl, ?_⟩) ?_ ?_
   rotate_left
   ·intro w'
    go_simp
    with_reducible rfl
   rotate_left
   ·simp only [Act.put, List.setIfInBounds_toArray, List.set_cons_zero, List.set_cons_succ, i64_w, i32_w]
    rfl
   refine last_ (i := 10) (N := none) #[true, true, true, true, true, true, true, true, true, true, true] rfl rfl (by kernel_rfl) (by decide) (fun K hK => ?_)
   refine skip_ (w1 := ?_) (by rfl) rfl ?_ ?_
   rotate_left
   ·go_simp
    rfl
   refine hK.out _ _ ?_
   clear hK K
   refine done_ (by kernel_rfl) ?_
   have hst := HL2.out.set (i := x.f0.toNat) (by omega) x.f1
   have HL3 := Lib.hid hst
   have hlen3 : (bb.set x.f0.toNat x.f1).length = bb.length := List.length_set
   clear hst y0 y1 y2 yb0 yb1 hHeld HL2
   go_wp2
   go_roundw
   case rel => exact ⟨k + 1, by first | rfl | go_num, by omega, by rw [HSN.out]; exact HL3⟩
   case measure => simp [intOf]; omega

def bits_Mul32.f (a0 : Int) (a1 : Int) : Option (Int × Int) := some (((IntKind.u64.wrap ((IntKind.u64.wrap (a0)) * (IntKind.u64.wrap (a1)))) / 4294967296) % 4294967296, (IntKind.u64.wrap ((IntKind.u64.wrap (a0)) * (IntKind.u64.wrap (a1)))) % 4294967296)
set_option maxHeartbeats 8000000 in
set_option maxRecDepth 100000 in
theorem bits_Mul32.calls (a0 : Int) (a1 : Int) (r1 : Int) (r2 : Int) (w : World) (h : bits_Mul32.f a0 a1 = some (r1, r2)) :
  Calls Tryd.prog 58 #[.int .u32 a0, .int .u32 a1] w fun e w' => e = .returned (.tuple #[.int .u32 r1, .int .u32 r2]) ∧ Drawn0 w w' := by
 have H : (some (((IntKind.u64.wrap ((IntKind.u64.wrap (a0)) * (IntKind.u64.wrap (a1)))) / 4294967296) % 4294967296, (IntKind.u64.wrap ((IntKind.u64.wrap (a0)) * (IntKind.u64.wrap (a1)))) % 4294967296)) = some (r1, r2) := h
 clear h
 simp only [Option.some.injEq, Prod.mk.injEq] at H
 obtain ⟨rfl, rfl⟩ := H
 go_enter Tryd.func58, Tryd.ntmps58
 go_wp2
 go_ret2
 exact ⟨by first | rfl | (simp; done) | (simp [*]; done), by repeat (first | exact Drawn0.refl _ | apply Drawn0.step)⟩

def bits_Mul64.f (a0 : Int) (a1 : Int) : Option (Int × Int) := some (IntKind.u64.wrap ((IntKind.u64.wrap ((IntKind.u64.wrap ((a0 / 4294967296) * (a1 / 4294967296))) + ((IntKind.u64.wrap ((IntKind.u64.wrap ((a0 / 4294967296) * (Go.bits .and .u64 a1 4294967295))) + ((IntKind.u64.wrap ((Go.bits .and .u64 a0 4294967295) * (Go.bits .and .u64 a1 4294967295))) / 4294967296))) / 4294967296))) + ((IntKind.u64.wrap ((Go.bits .and .u64 (IntKind.u64.wrap ((IntKind.u64.wrap ((a0 / 4294967296) * (Go.bits .and .u64 a1 4294967295))) + ((IntKind.u64.wrap ((Go.bits .and .u64 a0 4294967295) * (Go.bits .and .u64 a1 4294967295))) / 4294967296))) 4294967295) + (IntKind.u64.wrap ((Go.bits .and .u64 a0 4294967295) * (a1 / 4294967296))))) / 4294967296)), IntKind.u64.wrap (a0 * a1))
set_option maxHeartbeats 8000000 in
set_option maxRecDepth 100000 in
theorem bits_Mul64.calls (a0 : Int) (a1 : Int) (r1 : Int) (r2 : Int) (w : World) (h : bits_Mul64.f a0 a1 = some (r1, r2)) :
  Calls Tryd.prog 59 #[.int .u64 a0, .int .u64 a1] w fun e w' => e = .returned (.tuple #[.int .u64 r1, .int .u64 r2]) ∧ Drawn0 w w' := by
 have H : (some (IntKind.u64.wrap ((IntKind.u64.wrap ((IntKind.u64.wrap ((a0 / 4294967296) * (a1 / 4294967296))) + ((IntKind.u64.wrap ((IntKind.u64.wrap ((a0 / 4294967296) * (Go.bits .and .u64 a1 4294967295))) + ((IntKind.u64.wrap ((Go.bits .and .u64 a0 4294967295) * (Go.bits .and .u64 a1 4294967295))) / 4294967296))) / 4294967296))) + ((IntKind.u64.wrap ((Go.bits .and .u64 (IntKind.u64.wrap ((IntKind.u64.wrap ((a0 / 4294967296) * (Go.bits .and .u64 a1 4294967295))) + ((IntKind.u64.wrap ((Go.bits .and .u64 a0 4294967295) * (Go.bits .and .u64 a1 4294967295))) / 4294967296))) 4294967295) + (IntKind.u64.wrap ((Go.bits .and .u64 a0 4294967295) * (a1 / 4294967296))))) / 4294967296)), IntKind.u64.wrap (a0 * a1))) = some (r1, r2) := h
 clear h
 simp only [Option.some.injEq, Prod.mk.injEq] at H
 obtain ⟨rfl, rfl⟩ := H
 go_enter Tryd.func59, Tryd.ntmps59
 go_wp2
 go_ret2
 exact ⟨by first | rfl | (simp; done) | (simp [*]; done), by repeat (first | exact Drawn0.refl _ | apply Drawn0.step)⟩

def bits_Mul.f (a0 : Int) (a1 : Int) : Option (Int × Int) := (bits_Mul64.f a0 a1).bind fun bt116 => (some (bt116.1, bt116.2))
set_option maxHeartbeats 8000000 in
set_option maxRecDepth 100000 in
theorem bits_Mul.calls (a0 : Int) (a1 : Int) (r1 : Int) (r2 : Int) (w : World) (h : bits_Mul.f a0 a1 = some (r1, r2)) :
  Calls Tryd.prog 41 #[.int .u64 a0, .int .u64 a1] w fun e w' => e = .returned (.tuple #[.int .u64 r1, .int .u64 r2]) ∧ Drawn0 w w' := by
 have H : ((bits_Mul64.f a0 a1).bind fun bt116 => (some (bt116.1, bt116.2))) = some (r1, r2) := h
 clear h
 replace H := Option.bind_eq_some_iff.mp H
 obtain ⟨⟨t116, t117⟩, A30, H⟩ := H
 replace H : (some (t116, t117)) = some (r1, r2) := H
 have A3 := Aside0.mk A30
 clear A30
 simp only [Option.some.injEq, Prod.mk.injEq] at H
 obtain ⟨rfl, rfl⟩ := H
 go_enter Tryd.func41, Tryd.ntmps41
 go_wp2_with (first | ((with_reducible refine gate_callee (f := 59) rfl ?_); refine goesL_ (some 25) rfl rfl Tryd.func59 (by kernel_rfl) rfl #[.int .u64 a0, .int .u64 a1] rfl (by (try simp only [List.map_toArray, List.map_cons, List.map_nil]); first | done | rfl | (simp only [List.length_drop, List.length_take]; rfl)) ?_; (with_reducible refine (bits_Mul64.calls a0 a1 t116 t117 _ A3.out).mono ?_); rintro e w' ⟨rfl, ⟨nd, rfl⟩⟩; refine ⟨_, rfl, ?_⟩))
 go_ret2
 exact ⟨by first | rfl | (simp; done) | (simp [*]; done), by repeat (first | exact Drawn0.refl _ | apply Drawn0.step)⟩

def stringslite_HasPrefix.f (a0 : ByteArray) (a1 : ByteArray) : Option (Bool) := if (a0.size : Int) ≥ (a1.size : Int) then (if 0 ≤ (a1.size : Int) then (if (a1.size : Int) ≤ (a0.size : Int) then (some ((a0.extract 0 ((a1.size : Int) : Int).toNat).toList == a1.toList)) else (none)) else (none)) else (some false)
set_option maxHeartbeats 8000000 in
set_option maxRecDepth 100000 in
theorem stringslite_HasPrefix.calls (a0 : ByteArray) (a1 : ByteArray) (r : Bool) (w : World) (h : stringslite_HasPrefix.f a0 a1 = some r) :
  Calls Tryd.prog 60 #[.string a0, .string a1] w fun e w' => e = .returned (.bool r) ∧ Drawn0 w w' := by
 have H : (if (a0.size : Int) ≥ (a1.size : Int) then (if 0 ≤ (a1.size : Int) then (if (a1.size : Int) ≤ (a0.size : Int) then (some ((a0.extract 0 ((a1.size : Int) : Int).toNat).toList == a1.toList)) else (none)) else (none)) else (some false)) = some r := h
 clear h
 by_cases c3 : (a0.size : Int) ≥ (a1.size : Int)
 ·rw [if_pos c3] at H
  have c3b0 : decide ((a1.size : Int) ≤ (a0.size : Int)) = true := decide_eq_true c3
  have c3b1 : decide (a1.size ≤ a0.size) = true := decide_eq_true (Int.ofNat_le.mp c3)
  clear c3
  by_cases c4 : 0 ≤ (a1.size : Int)
  ·rw [if_pos c4] at H
   have c4b0 := eq_true c4
   have c4b1 : decide (0 ≤ (a1.size : Int)) = true := decide_eq_true c4
   clear c4
   by_cases c5 : (a1.size : Int) ≤ (a0.size : Int)
   ·rw [if_pos c5] at H
    have c5b0 := eq_true c5
    have c5b1 : decide ((a1.size : Int) ≤ (a0.size : Int)) = true := decide_eq_true c5
    clear c5
    obtain rfl := Option.some.inj H
    go_enter Tryd.func60, Tryd.ntmps60
    go_wp2
    go_ret
    exact ⟨by first | rfl | (simp; done) | (simp [*]; done), by repeat (first | exact Drawn0.refl _ | apply Drawn0.step)⟩
   ·rw [if_neg c5] at H
    exact absurd H (by simp)
  ·rw [if_neg c4] at H
   exact absurd H (by simp)
 ·rw [if_neg c3] at H
  have c3b0 : decide ((a1.size : Int) ≤ (a0.size : Int)) = false := decide_eq_false c3
  have c3b1 : decide (a1.size ≤ a0.size) = false := decide_eq_false (fun h => c3 (Int.ofNat_le.mpr h))
  clear c3
  obtain rfl := Option.some.inj H
  go_enter Tryd.func60, Tryd.ntmps60
  go_wp2
  go_ret
  exact ⟨by first | rfl | (simp; done) | (simp [*]; done), by repeat (first | exact Drawn0.refl _ | apply Drawn0.step)⟩

def strings_HasPrefix.f (a0 : ByteArray) (a1 : ByteArray) : Option (Bool) := (stringslite_HasPrefix.f a0 a1).bind fun t118 => (some t118)
set_option maxHeartbeats 8000000 in
set_option maxRecDepth 100000 in
theorem strings_HasPrefix.calls (a0 : ByteArray) (a1 : ByteArray) (r : Bool) (w : World) (h : strings_HasPrefix.f a0 a1 = some r) :
  Calls Tryd.prog 42 #[.string a0, .string a1] w fun e w' => e = .returned (.bool r) ∧ Drawn0 w w' := by
 have H : ((stringslite_HasPrefix.f a0 a1).bind fun t118 => (some t118)) = some r := h
 clear h
 replace H := Option.bind_eq_some_iff.mp H
 obtain ⟨t118, A30, H⟩ := H
 replace H : (some t118) = some r := H
 have A3 := Aside0.mk A30
 clear A30
 obtain rfl := Option.some.inj H
 go_enter Tryd.func42, Tryd.ntmps42
 go_wp2_with (first | ((with_reducible refine gate_callee (f := 60) rfl ?_); refine goesL_ (some 7) rfl rfl Tryd.func60 (by kernel_rfl) rfl #[.string a0, .string a1] rfl (by (try simp only [List.map_toArray, List.map_cons, List.map_nil]); first | done | rfl | (simp only [List.length_drop, List.length_take]; rfl)) ?_; (with_reducible refine (stringslite_HasPrefix.calls a0 a1 t118 _ A3.out).mono ?_); rintro e w' ⟨rfl, ⟨nd, rfl⟩⟩; refine ⟨_, rfl, ?_⟩))
 go_ret
 exact ⟨by first | rfl | (simp; done) | (simp [*]; done), by repeat (first | exact Drawn0.refl _ | apply Drawn0.step)⟩

end Go.Proofs.YthlnjbaichkipaaDoor.XR
