/- For all texts, a record, a fuse and a list of what is kept within the bound: behind a crash the trail has what was synced, and the record whole or not at all. -/
import Derived.Test.YthlnjbaichkipaaDoorZXR11
import Derived.Test.YthlnjbaichkipaaDoorZUTrailTorn
import Derived.Test.YthlnjbaichkipaaDoorZQTrnA
import Derived.Test.YthlnjbaichkipaaDoorZXR14
set_option linter.unusedVariables false
set_option linter.unusedSimpArgs false
namespace Go.Proofs.YthlnjbaichkipaaDoor.XR
open Go.RowKit Go.Proofs.YthlnjbaichkipaaDoorW.PrintWords Go.Proofs.YthlnjbaichkipaaDoorW.PrintLast Go.Proofs.YthlnjbaichkipaaDoorW.PrintMore Go.Proofs.YthlnjbaichkipaaDoor.Wire Go.Proofs.YthlnjbaichkipaaDoor.Sum
set_option maxRecDepth 100000 in
theorem torn_lives : bellmanlaw04_lives.f = some true := by decide +kernel
theorem same_loop (l : List ByteArray) (hl : l.length ≤ 9000000000000000000) : ∀ (d i : Nat), i + d = l.length → Ev (fun k => bellmanref01_SameTexts.l0 k l l (l.length : Int) (i : Int)) true
  | 0, i, h => Ev.step (f := fun _ => some true) (fun k => by rw [bellmanref01_SameTexts.l0, if_neg (by omega)]) (Ev.now _)
  | d + 1, i, h => Ev.step (f := fun k => bellmanref01_SameTexts.l0 k l l (l.length : Int) ((i + 1 : Nat) : Int)) (fun k => by rw [bellmanref01_SameTexts.l0, if_pos (by omega), if_pos (by omega), if_pos (by omega), if_pos (by omega), if_pos rfl, dv_wrap i (by omega)]) (same_loop l hl d (i + 1) (by omega))
theorem same_refl {l : List ByteArray} (hl : l.length ≤ 9000000000000000000) : Ev (fun k => bellmanref01_SameTexts.f k l l) true := by
  unfold bellmanref01_SameTexts.f
  simp only [if_true]
  exact same_loop l hl l.length 0 (by omega)
theorem blks_len {s : List UInt8} (h : s.length ≤ 200) : (Trl.blksF s).length ≤ 4 := by
  have h8 := dig_len8 (n := (s.length : Int)) ⟨by omega, by omega⟩
  obtain ⟨_, _, h3⟩ := Trl.recF_cut _ (frameL s) [] [] (Nat.le_refl _) (Trl.frameL_ne s)
  have hf : (frameL s).length ≤ 213 := by
    unfold frameL
    rw [List.length_append, List.length_append, numL_length]
    have : (fourL (crc 0 s)).length = 4 := rfl
    omega
  unfold Trl.blksF
  omega
theorem bks_len : ∀ (ts : List (List UInt8)), (∀ x ∈ ts, x.length ≤ 200) → (bks ts).length ≤ 4 * ts.length
  | [], _ => by simp [bks]
  | t :: ts, h => by
    have h1 := blks_len (h t (List.mem_cons_self ..))
    have h2 := bks_len ts (fun x hx => h x (List.mem_cons_of_mem _ hx))
    show ((t :: ts).flatMap Trl.blksF).length ≤ _
    rw [List.flatMap_cons, List.length_append, List.length_cons]
    have h3 : (bks ts).length = (ts.flatMap Trl.blksF).length := rfl
    omega
theorem blks_pos (s : List UInt8) : 1 ≤ (Trl.blksF s).length := by
  obtain ⟨_, h2, _⟩ := Trl.recF_cut _ (frameL s) [] [] (Nat.le_refl _) (Trl.frameL_ne s)
  have h3 : 0 < (frameL s).length := List.length_pos_iff.2 (Trl.frameL_ne s)
  unfold Trl.blksF
  omega
theorem app_go0 {A : List (List UInt8)} {s : List UInt8} (hl : ∀ x ∈ A.map B, x.size = 64) (h1 : s.length ≤ 32768) (hu : A.length + (Trl.blksF s).length ≤ 64) :
    tr_Append (DD z64 0 (A.map B)) 0 64 (A.length : Int) (if s.length ≤ 32768 then (Trl.blksF s).map B else []) (if s.length ≤ 32768 then 0 else 12) = (DD z64 0 ((A ++ Trl.blksF s).map B), ((A.length + (Trl.blksF s).length : Nat) : Int), 0) := by
  have ho : tr_open (DD z64 0 (A.map B)) 0 64 = 0 := open_yes (DD_ok z64_len z64_size (by rw [List.length_map]; omega) hl) rfl (by show tr_in z64.length 0 64; rw [z64_len]; unfold tr_in; omega)
  unfold tr_Append
  rw [if_pos ho, if_pos h1, if_pos h1]
  unfold tr_append
  rw [if_neg (by omega), if_neg (by decide), if_neg (by rw [List.length_map]; omega)]
  have hw := wr_go ((Trl.blksF s).map B) (DD z64 0 (A.map B)) A.length rfl (by show A.length + _ ≤ z64.length; rw [List.length_map, z64_len]; omega) (fun x hx => by
    obtain ⟨y, hy, rfl⟩ := List.mem_map.mp hx
    rw [B_size]
    exact Trl.blksF_size s y hy) (by show (wts 0 (A.map B)).length + _ ≤ 4096; rw [wts_len, List.length_map, List.length_map]; omega)
  rw [show (0 : Int) + (A.length : Int) = (A.length : Int) by omega, hw]
  simp only [if_true, List.length_map]
  unfold DD
  rw [List.map_append, wts_app, List.length_map, Nat.zero_add]
  refine Prod.ext rfl (Prod.ext ?_ rfl)
  simp
theorem fits {b : List ByteArray} {w : List S60} {f : Int} {d : Bool} (hb : b.length = 64) (hs : ∀ x ∈ b, x.size = 64) (hw : w.length ≤ 64) (hf0 : -1 ≤ f) (hf : f ≤ 9223372036854775807) (hx : ∀ x ∈ w, 0 ≤ x.f0 ∧ x.f0 < (b.length : Int) ∧ x.f1.size = 64) : DOk ⟨b, w, f, d⟩ ∧ dv_fit ⟨b, w, f, d⟩ := by
  have h : DOk ⟨b, w, f, d⟩ := ⟨by show b.length ≤ 4096; omega, by show w.length ≤ 4096; omega, hf0, hs, hx⟩
  exact ⟨h, h.fit hf⟩
theorem torn_all (keep : List Int) (ts : List (List UInt8)) (s : List UInt8) (fu : Int) (h0 : -1 ≤ fu) (h1 : fu ≤ 9223372036854775807) (hts : ∀ x ∈ ts, x.length ≤ 200) (hn : ts.length ≤ 6) :
    ∃ (E : Dv) (n why : Int), tr_Append ⟨dv_apply (wts 0 ((bks ts).map B)) z64, [], fu, false⟩ 0 64 ((bks ts).length : Int) (if s.length ≤ 32768 then (Trl.blksF s).map B else []) (if s.length ≤ 32768 then 0 else 12) = (E, n, why) ∧ dv_fit E ∧ ∃ (E' : Dv) (why' : Int), (why = 0 ∧ dv_Sync E = (E', why') ∨ why ≠ 0 ∧ E' = E ∧ why' = why) ∧ dv_fit E' ∧ DOk E' ∧ ∃ (R : List (List UInt8)) (u : Int), tr_Read ⟨cr_go keep 0 E'.w E'.b, [], -1, false⟩ 0 64 = some (R.map B, u, 0) ∧ (R = ts ∧ u = ((bks ts).length : Int) ∧ why' ≠ 0 ∨ R = ts ++ [s] ∧ ((bks ts).length : Int) < u ∧ (why' = 0 → u = n)) := by
  have hU := bks_len ts hts
  have hb : (dv_apply (wts 0 ((bks ts).map B)) z64).length = 64 := by rw [dv_apply_len, z64_len]
  have hbs : ∀ x ∈ dv_apply (wts 0 ((bks ts).map B)) z64, x.size = 64 := apply_size (fun x hx => bks_size ts _ (wts_mem _ _ _ hx).2.2) z64_size
  obtain ⟨j, f', d', n, why, e, g1, g2, g3, g4⟩ := app_fuse (U := (bks ts).length) (s := s) (fu := fu) hb hbs h0 (by omega)
  have hp := blks_pos s
  have hts' : ∀ x ∈ ts, x.length ≤ 32768 := fun x hx => by have := hts x hx; omega
  have hA64 : ∀ x ∈ bks ts, x.length = 64 := fun x hx => by
    obtain ⟨t, _, hy⟩ := List.mem_flatMap.mp hx
    exact Trl.blksF_size t x hy
  have hread : ∀ (X K : List (List UInt8)), X.length + K.length ≤ 64 → (∀ x ∈ X, x.length = 64) → (∀ x ∈ K, x.length = 64) → tr_Read ⟨cr_go keep 0 (wts X.length (K.map B)) (dv_apply (wts 0 (X.map B)) z64), [], -1, false⟩ 0 64 = some ((Trl.recsF 65 (X ++ ((List.range K.length).map (fun i => Trl.tornB (K.getD i []) (cr_n keep i)) ++ List.replicate (64 - X.length - K.length) (Trl.zs 64)))).1.map B, ((Trl.recsF 65 (X ++ ((List.range K.length).map (fun i => Trl.tornB (K.getD i []) (cr_n keep i)) ++ List.replicate (64 - X.length - K.length) (Trl.zs 64)))).2 : Int), 0) := by
    intro X K hXK hX hK
    have h2 : (cr_go keep 0 (wts X.length (K.map B)) (dv_apply (wts 0 (X.map B)) z64)).length = 64 := by rw [cr_go_len, dv_apply_len, z64_len]
    have h3 : ∀ x ∈ cr_go keep 0 (wts X.length (K.map B)) (dv_apply (wts 0 (X.map B)) z64), x.size = 64 := cr_go_size keep _ 0 _ (fun x hx => by
      obtain ⟨a1, a2, a3⟩ := wts_mem _ _ _ hx
      rw [List.length_map] at a2
      refine ⟨by omega, by rw [dv_apply_len, z64_len]; omega, ?_⟩
      obtain ⟨y, hy, e⟩ := List.mem_map.mp a3
      rw [← e, B_size]
      exact hK y hy) (apply_size (fun x hx => by
        obtain ⟨y, hy, e⟩ := List.mem_map.mp (wts_mem _ _ _ hx).2.2
        rw [← e, B_size]
        exact hX y hy) z64_size)
    have ho : tr_open ⟨cr_go keep 0 (wts X.length (K.map B)) (dv_apply (wts 0 (X.map B)) z64), [], -1, false⟩ 0 64 = 0 := open_yes ⟨Nat.le_trans (Nat.le_of_eq h2) (by decide), by simp, by show (-1 : Int) ≤ -1; omega, h3, by simp⟩ rfl (by show tr_in (List.length _) 0 64; rw [h2]; unfold tr_in; omega)
    have e64 : (64 : Int).toNat = 64 := rfl
    have hv := torn_view keep 0 64 (by omega) X K hXK hK
    have e0 : ((0 : Nat) : Int) = 0 := rfl
    rw [Nat.zero_add, e0] at hv
    rw [Read_eq2 ho, e64, hv]
  have hone : j = 0 ∨ s.length ≤ 32768 ∧ (bks ts).length + (Trl.blksF s).length ≤ 64 ∧ j ≤ (Trl.blksF s).length := g3
  have hjl : ((Trl.blksF s).take j).length ≤ j := List.length_take_le _ _
  have hj64 : (bks ts).length + ((Trl.blksF s).take j).length ≤ 64 := by
    rcases hone with h | ⟨_, h, _⟩
    · subst h; rw [List.take_zero, List.length_nil]; omega
    · rw [List.length_take]; omega
  have hK64 : ∀ x ∈ (Trl.blksF s).take j, x.length = 64 := fun x hx => Trl.blksF_size s x (List.mem_of_mem_take hx)
  have hwx : ∀ x ∈ wts (bks ts).length (((Trl.blksF s).take j).map B), 0 ≤ x.f0 ∧ x.f0 < ((dv_apply (wts 0 ((bks ts).map B)) z64).length : Int) ∧ x.f1.size = 64 := fun x hx => by
    obtain ⟨a1, a2, a3⟩ := wts_mem _ _ _ hx
    rw [List.length_map] at a2
    refine ⟨by omega, by rw [hb]; omega, ?_⟩
    obtain ⟨y, hy, e⟩ := List.mem_map.mp a3
    rw [← e, B_size]
    exact hK64 y hy
  have hwl : (wts (bks ts).length (((Trl.blksF s).take j).map B)).length ≤ 64 := by rw [wts_len, List.length_map]; omega
  obtain ⟨hok, hfit⟩ := fits (d := d') hb hbs hwl g1 (by omega) hwx
  have hwait : ∃ (R : List (List UInt8)) (u : Int), tr_Read ⟨cr_go keep 0 (wts (bks ts).length (((Trl.blksF s).take j).map B)) (dv_apply (wts 0 ((bks ts).map B)) z64), [], -1, false⟩ 0 64 = some (R.map B, u, 0) ∧ (R = ts ∧ u = ((bks ts).length : Int) ∨ R = ts ++ [s] ∧ u = (bks ts).length + (Trl.blksF s).length) := by
    refine ⟨_, _, hread (bks ts) _ hj64 hA64 hK64, ?_⟩
    rcases hone with h | ⟨c1, c2, c3⟩
    · subst h
      left
      simp only [List.take_zero, List.length_nil, List.range_zero, List.map_nil, List.nil_append]
      have := Trl.recsF_all ts 65 (List.replicate (64 - (bks ts).length - 0) (Trl.zs 64)) hts' (by omega) (zrec _)
      unfold bks at this ⊢
      rw [this]
      exact ⟨rfl, rfl⟩
    · have hl : ((Trl.blksF s).take j).length = j := by rw [List.length_take]; omega
      rcases Trl.recsF_part ts s ((List.range ((Trl.blksF s).take j).length).map (fun i => Trl.tornB (((Trl.blksF s).take j).getD i []) (cr_n keep i))) 65 (64 - (bks ts).length - ((Trl.blksF s).take j).length) hts' c1 (by omega) (by rw [List.length_map, List.length_range, hl]; exact c3) (fun h => by rw [List.length_map, List.length_range, hl] at h; rw [hl]; omega) (fun i hi => by
        simp only [List.length_map, List.length_range] at hi
        refine ⟨cr_n keep i, ?_⟩
        simp only [List.getElem_map, List.getElem_range]
        congr 1
        rw [List.getD_eq_getElem?_getD, List.getElem?_take, if_pos (by omega), ← List.getD_eq_getElem?_getD]) zrec with h | h
      · left
        unfold bks at h ⊢
        rw [h]
        exact ⟨rfl, rfl⟩
      · right
        unfold bks at h ⊢
        rw [h]
        exact ⟨rfl, by simp⟩
  refine ⟨_, n, why, e, hfit, ?_⟩
  by_cases cw : why = 0
  · obtain ⟨c1, c2, c3, c4, c5⟩ := g4 cw
    subst c3
    subst c4
    rw [List.take_length] at *
    have ho : dv_open ⟨dv_apply (wts 0 ((bks ts).map B)) z64, wts (bks ts).length ((Trl.blksF s).map B), f', false⟩ = 0 := (open_iff _).2 ⟨hok, rfl⟩
    by_cases cf : f' = 0
    · -- the power goes at the sync
      refine ⟨⟨dv_apply (wts 0 ((bks ts).map B)) z64, wts (bks ts).length ((Trl.blksF s).map B), f', true⟩, 9, .inl ⟨cw, ?_⟩, ?_⟩
      · unfold dv_Sync
        rw [if_pos ho]
        unfold dv_sync dv_asks
        simp only [if_pos cf]
        rfl
      · obtain ⟨hok2, hfit2⟩ := fits (d := true) hb hbs hwl g1 (by omega) hwx
        obtain ⟨R, u, h2, h3⟩ := hwait
        refine ⟨hfit2, hok2, R, u, h2, ?_⟩
        rcases h3 with ⟨a, b⟩ | ⟨a, b⟩
        · exact .inl ⟨a, b, by decide⟩
        · exact .inr ⟨a, by omega, by intro h; cases h⟩
    · refine ⟨⟨dv_apply (wts (bks ts).length ((Trl.blksF s).map B)) (dv_apply (wts 0 ((bks ts).map B)) z64), [], if f' = -1 then -1 else f' - 1, false⟩, 0, .inl ⟨cw, ?_⟩, ?_⟩
      · unfold dv_Sync
        rw [if_pos ho]
        unfold dv_sync dv_asks
        simp only [if_neg cf]
        rfl
      · have hq : dv_apply (wts (bks ts).length ((Trl.blksF s).map B)) (dv_apply (wts 0 ((bks ts).map B)) z64) = dv_apply (wts 0 ((bks ts ++ Trl.blksF s).map B)) z64 := by
          rw [← ap_app, List.map_append, wts_app, List.length_map, Nat.zero_add]
        have hb2 : (dv_apply (wts (bks ts).length ((Trl.blksF s).map B)) (dv_apply (wts 0 ((bks ts).map B)) z64)).length = 64 := by rw [dv_apply_len, hb]
        obtain ⟨hok2, hfit2⟩ := fits (d := false) (f := if f' = -1 then -1 else f' - 1) (w := []) hb2 (apply_size (fun x hx => (hwx x hx).2.2) hbs) (by simp) (by split <;> omega) (by split <;> omega) (by simp)
        have hx64 : ∀ x ∈ bks ts ++ Trl.blksF s, x.length = 64 := fun x hx => by
          rcases List.mem_append.mp hx with hx | hx
          · exact hA64 x hx
          · exact Trl.blksF_size s x hx
        have hr := hread (bks ts ++ Trl.blksF s) [] (by rw [List.length_append, List.length_nil]; omega) hx64 (by simp)
        refine ⟨hfit2, hok2, ts ++ [s], (((bks ts).length + (Trl.blksF s).length : Nat) : Int), ?_, .inr ⟨rfl, by omega, fun _ => by rw [c5]; omega⟩⟩
        show tr_Read ⟨cr_go keep 0 [] (dv_apply (wts (bks ts).length ((Trl.blksF s).map B)) (dv_apply (wts 0 ((bks ts).map B)) z64)), [], -1, false⟩ 0 64 = _
        rw [hq]
        have ew : wts (bks ts ++ Trl.blksF s).length (([] : List (List UInt8)).map B) = [] := rfl
        rw [ew] at hr
        rw [hr]
        simp only [List.length_nil, List.range_zero, List.map_nil, List.nil_append]
        have hall := Trl.recsF_all (ts ++ [s]) 65 (List.replicate (64 - (bks ts ++ Trl.blksF s).length - 0) (Trl.zs 64)) (fun x hx => by
          rcases List.mem_append.mp hx with hx | hx
          · exact hts' x hx
          · rw [List.mem_singleton.mp hx]; exact c1) (by simp; omega) (zrec _)
        have ef : (ts ++ [s]).flatMap Trl.blksF = bks ts ++ Trl.blksF s := by simp [bks]
        rw [ef] at hall
        rw [hall]
        simp
  · obtain ⟨R, u, h2, h3⟩ := hwait
    refine ⟨_, why, .inr ⟨cw, rfl, rfl⟩, hfit, hok, R, u, h2, ?_⟩
    rcases h3 with ⟨a, b⟩ | ⟨a, b⟩
    · exact .inl ⟨a, b, cw⟩
    · exact .inr ⟨a, by omega, fun h => absurd h cw⟩
theorem j3_go (s : List UInt8) (keep : List Int) (ts : List (List UInt8)) (hn : ts.length ≤ 6) (n why' : Int) (E' : Dv) (hfit : dv_fit E') (hok : DOk E') (R : List (List UInt8)) (u : Int) (hr : tr_Read ⟨cr_go keep 0 E'.w E'.b, [], -1, false⟩ 0 64 = some (R.map B, u, 0)) (hRR : R = ts ∧ u = ((bks ts).length : Int) ∧ why' ≠ 0 ∨ R = ts ++ [s] ∧ ((bks ts).length : Int) < u ∧ (why' = 0 → u = n)) :
    Ev (fun k => bellmanlaw04_TrailTorn.j3 k (B s) keep ((bks ts).length : Int) (ts.map B) 0 n why' E'.b E'.w E'.f E'.d) true := by
  have e1 : block_Crash.f E'.b E'.w E'.f E'.d keep = some (dv_five (dv_Crash E' keep)) := if_pos hfit
  rw [Crash_eq hok keep] at e1
  have hfC : dv_fit ⟨cr_go keep 0 E'.w E'.b, [], -1, false⟩ := (Crash_ok hok keep).fit (by show (-1 : Int) ≤ _; omega)
  have e2 : trail_Read.f (cr_go keep 0 E'.w E'.b) [] (-1) false 0 64 = some (R.map B, u, 0) := (Read_f_eq ⟨cr_go keep 0 E'.w E'.b, [], -1, false⟩ hfC 0 64).trans hr
  have hRl : R.length = ts.length ∨ R.length = ts.length + 1 := by
    rcases hRR with ⟨h, _⟩ | ⟨h, _⟩
    · exact .inl (by rw [h])
    · exact .inr (by rw [h]; simp)
  have hmn : mn ((R.map B).length : Int) ((ts.map B).length : Int) = (ts.length : Int) := by
    unfold mn
    rw [List.length_map, List.length_map]
    rcases hRl with h | h <;> omega
  have htk : (R.map B).take ((ts.length : Int)).toNat = ts.map B := by
    rw [Int.toNat_natCast, ← List.map_take]
    rcases hRR with ⟨h, _⟩ | ⟨h, _⟩
    · rw [h, List.take_length]
    · rw [h, List.take_left]
  refine Ev.step (f := fun k => (bellmanref01_SameTexts.f k (ts.map B) (ts.map B)).bind fun t347 => bellmanlaw04_TrailTorn.j4 k (B s) ((bks ts).length : Int) (ts.map B) n why' (R.map B) u (!t347)) (fun k => ?_) ?_
  · rw [bellmanlaw04_TrailTorn.j3, e1]
    simp only [Option.bind_some, dv_five]
    rw [e2]
    simp only [Option.bind_some, if_true, hmn]
    rw [if_pos (by omega), if_pos (by rw [List.length_map]; omega), htk]
  · refine Ev.bind (same_refl (by rw [List.length_map]; omega)) (f := fun k t347 => _) ?_
    refine Ev.step (f := fun _ => some true) (fun k => ?_) (Ev.now _)
    rw [bellmanlaw04_TrailTorn.j4, if_neg (by decide)]
    rcases hRR with ⟨h, h2, h3⟩ | ⟨h, h2, h3⟩
    · rw [h, if_pos rfl, if_neg h3, h2]
      simp
    · have hl : (R.map B).length = ts.length + 1 := by rw [h]; simp
      rw [hl, List.length_map, if_neg (by omega), if_pos (by unfold wrap64; omega), if_pos (by omega), if_pos (by omega)]
      have hrd : rdOf ByteArray.empty (R.map B) (ts.length : Int) = B s := by
        unfold rdOf
        rw [Int.toNat_natCast, h, List.getD_eq_getElem?_getD, List.getElem?_map, List.getElem?_append_right (Nat.le_refl _), Nat.sub_self]
        rfl
      rw [hrd, if_pos rfl, if_pos (by omega)]
      by_cases c : why' = 0
      · rw [if_pos c, h3 c]
        simp
      · rw [if_neg c]
theorem j2_go (s : List UInt8) (fu : Int) (h0 : -1 ≤ fu) (h1 : fu ≤ 9223372036854775807) (keep : List Int) (ts : List (List UInt8)) (hn : ts.length ≤ 6) (hts : ∀ x ∈ ts, x.length ≤ 200) : Ev (fun k => bellmanlaw04_TrailTorn.j2 k (B s) fu keep ((bks ts).length : Int) (ts.map B) z64 (wts 0 ((bks ts).map B)) (-1) false) true := by
  have hU := bks_len ts hts
  have hsz := bks_size ts
  have hb1 : (dv_apply (wts 0 ((bks ts).map B)) z64).length = 64 := by rw [dv_apply_len, z64_len]
  have hb2 : ∀ x ∈ dv_apply (wts 0 ((bks ts).map B)) z64, x.size = 64 := apply_size (fun x hx => hsz _ (wts_mem _ _ _ hx).2.2) z64_size
  have e1 : block_Sync.f z64 (wts 0 ((bks ts).map B)) (-1) false = some (dv_five (DD (dv_apply (wts 0 ((bks ts).map B)) z64) 0 [], 0)) := by
    rw [← sync_go z64_len z64_size (by rw [List.length_map]; omega) hsz 0]
    exact if_pos (DD_fit z64_len z64_size (by rw [List.length_map]; omega) hsz)
  obtain ⟨E, n, why, hA, hfE, E', why', hS, hfit, hok, R, u, hr, hRR⟩ := torn_all keep ts s fu h0 h1 hts hn
  obtain ⟨_, hfu⟩ := fits (w := []) (f := fu) (d := false) hb1 hb2 (by simp) h0 h1 (by simp)
  have e2 : trail_Append.f (dv_apply (wts 0 ((bks ts).map B)) z64) [] fu false 0 64 ((bks ts).length : Int) (B s) = some (tr_six (E, n, why)) := by
    have := Append_f_eq ⟨dv_apply (wts 0 ((bks ts).map B)) z64, [], fu, false⟩ hfu 0 64 ((bks ts).length : Int) s
    rw [hA] at this
    exact this
  refine Ev.step (f := fun k => bellmanlaw04_TrailTorn.j3 k (B s) keep ((bks ts).length : Int) (ts.map B) 0 n why' E'.b E'.w E'.f E'.d) (fun k => ?_) (j3_go s keep ts hn n why' E' hfit hok R u hr hRR)
  rw [bellmanlaw04_TrailTorn.j2, e1]
  simp only [Option.bind_some, dv_five, DD, wts]
  rw [e2]
  simp only [Option.bind_some, tr_six]
  rcases hS with ⟨c, h⟩ | ⟨c, h, h'⟩
  · rw [if_pos c]
    have e3 : block_Sync.f E.b E.w E.f E.d = some (dv_five (dv_Sync E)) := if_pos hfE
    rw [e3, h]
    rfl
  · rw [if_neg c, h, h']
theorem l0_go (l : List ByteArray) (s : List UInt8) (fu : Int) (h0 : -1 ≤ fu) (h1 : fu ≤ 9223372036854775807) (keep : List Int) (hl : l.length ≤ 9000000000000000000) : ∀ (d i : Nat) (ts : List (List UInt8)), i + d = l.length → ts.length = i → i ≤ 6 → (∀ x ∈ ts, x.length ≤ 200) → Ev (fun k => bellmanlaw04_TrailTorn.l0 k (B s) fu keep ((bks ts).length : Int) (ts.map B) l (l.length : Int) (i : Int) z64 (wts 0 ((bks ts).map B)) (-1) false) true
  | 0, i, ts, h, ht, h8, h2 => Ev.step (f := fun k => bellmanlaw04_TrailTorn.j2 k (B s) fu keep ((bks ts).length : Int) (ts.map B) z64 (wts 0 ((bks ts).map B)) (-1) false) (fun k => by rw [bellmanlaw04_TrailTorn.l0, if_neg (by omega)]) (j2_go s fu h0 h1 keep ts (by omega) h2)
  | d + 1, i, ts, h, ht, h8, h2 => by
    have hj2 : ∀ t, Ev (fun k => bellmanlaw04_TrailTorn.j1 k (B s) fu keep ((bks ts).length : Int) (ts.map B) t l (l.length : Int) (i : Int) true z64 (wts 0 ((bks ts).map B)) (-1) false) true := fun t => Ev.step (f := fun k => bellmanlaw04_TrailTorn.j2 k (B s) fu keep ((bks ts).length : Int) (ts.map B) z64 (wts 0 ((bks ts).map B)) (-1) false) (fun k => by rw [bellmanlaw04_TrailTorn.j1, if_pos rfl]) (j2_go s fu h0 h1 keep ts (by omega) h2)
    by_cases c8 : (i : Int) = 6
    · exact Ev.step (fun k => by rw [bellmanlaw04_TrailTorn.l0, if_pos (by omega), if_pos (by omega), if_pos (by omega), if_pos c8]) (hj2 (rdOf ByteArray.empty l (i : Int)))
    · refine Ev.step (f := fun k => bellmanlaw04_TrailTorn.j1 k (B s) fu keep ((bks ts).length : Int) (ts.map B) (rdOf ByteArray.empty l (i : Int)) l (l.length : Int) (i : Int) (decide (((rdOf ByteArray.empty l (i : Int)).size : Int) > 200)) z64 (wts 0 ((bks ts).map B)) (-1) false) (fun k => by rw [bellmanlaw04_TrailTorn.l0, if_pos (by omega), if_pos (by omega), if_pos (by omega), if_neg c8]) ?_
      obtain ⟨t, ht2⟩ : ∃ t, rdOf ByteArray.empty l (i : Int) = B t := ⟨_, (B_data _).symm⟩
      rw [ht2, B_size]
      by_cases c : (t.length : Int) > 200
      · rw [decide_eq_true c]
        exact hj2 (B t)
      · rw [decide_eq_false c]
        have hU := bks_len ts h2
        have hb := blks_len (s := t) (by omega)
        have e1 : trail_Append.f z64 (wts 0 ((bks ts).map B)) (-1) false 0 64 ((bks ts).length : Int) (B t) = _ := Append_f_eq (DD z64 0 ((bks ts).map B)) (DD_fit z64_len z64_size (by rw [List.length_map]; omega) (bks_size ts)) 0 64 ((bks ts).length : Int) t
        rw [app_go0 (bks_size ts) (by omega) (by omega)] at e1
        have ih := l0_go l s fu h0 h1 keep hl d (i + 1) (ts ++ [t]) (by omega) (by simp [ht]) (by omega) (fun x hx => by
          rcases List.mem_append.mp hx with hx | hx
          · exact h2 x hx
          · rw [List.mem_singleton.mp hx]; omega)
        have e2 : bks (ts ++ [t]) = bks ts ++ Trl.blksF t := by simp [bks]
        rw [e2, List.map_append (l₁ := ts), List.length_append] at ih
        refine Ev.step (fun k => ?_) ih
        rw [bellmanlaw04_TrailTorn.j1, if_neg (by decide), e1]
        simp only [Option.bind_some, tr_six, DD, if_true]
        rw [if_pos (by rw [List.length_map]; omega), dv_wrap i (by omega)]
        rfl
theorem pure_TrailTorn : bellmanlaw04_TrailTorn.PureU := by
  intro l a fu keep _ hfu _ hb
  have hl : l.length ≤ (l.map (fun x => (x.size + 1))).sum := len_sum _ (fun _ => by omega) l
  have hf := dv_i64 hfu
  refine Ev.rounds ?_
  unfold bellmanlaw04_TrailTorn.f
  rw [torn_lives]
  by_cases c : fu < -1
  · simp only [Option.bind_some, if_true, if_pos c]
    exact Ev.now _
  · have hm : block_Make.f 64 = some (z64, [], -1, false, 0) := rfl
    rw [hm]
    simp only [Option.bind_some, if_true, if_neg c]
    have := l0_go l a.data.toList fu (by omega) hf.2 keep (by omega) l.length 0 [] (by omega) rfl (by omega) (by simp)
    rw [B_data] at this
    exact this
end Go.Proofs.YthlnjbaichkipaaDoor.XR
namespace Go.Proofs.YthlnjbaichkipaaDoor.Pure
theorem TrailTorn : XR.bellmanlaw04_TrailTorn.PureU := XR.pure_TrailTorn
end Go.Proofs.YthlnjbaichkipaaDoor.Pure
