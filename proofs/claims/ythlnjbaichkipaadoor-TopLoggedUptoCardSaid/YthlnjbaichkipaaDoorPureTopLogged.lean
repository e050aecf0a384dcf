/- For all texts, a last text and a list of what is kept within the bound: behind the crash the trail has the texts, with the last or without it, and behind the wipe none. -/
import Derived.Test.YthlnjbaichkipaaDoorUTopLogged
import Derived.Test.YthlnjbaichkipaaDoorQTopL
set_option linter.unusedVariables false
set_option linter.unusedSimpArgs false
namespace Go.Proofs.YthlnjbaichkipaaDoor.XR
open Go.RowKit Go.Proofs.YthlnjbaichkipaaDoorW.PrintWords Go.Proofs.YthlnjbaichkipaaDoorW.PrintLast Go.Proofs.YthlnjbaichkipaaDoorW.PrintMore Go.Proofs.YthlnjbaichkipaaDoor.Wire Go.Proofs.YthlnjbaichkipaaDoor.Sum
set_option maxRecDepth 100000 in
theorem top_begins : bellmantop_begins.f = some true := by decide +kernel
theorem txt_loop (l : List ByteArray) (hl : l.length ≤ 9000000000000000000) : ∀ (d i : Nat), i + d = l.length → Ev (fun k => bellmantop_texts.l0 k l l (l.length : Int) (i : Int)) true
  | 0, i, h => Ev.step (f := fun _ => some true) (fun k => by rw [bellmantop_texts.l0, if_neg (by omega)]) (Ev.now _)
  | d + 1, i, h => Ev.step (f := fun k => bellmantop_texts.l0 k l l (l.length : Int) ((i + 1 : Nat) : Int)) (fun k => by rw [bellmantop_texts.l0, if_pos (by omega), if_pos (by omega), if_pos (by omega), if_pos (by omega), if_pos rfl, dv_wrap i (by omega)]) (txt_loop l hl d (i + 1) (by omega))
theorem txt_refl {l : List ByteArray} (hl : l.length ≤ 9000000000000000000) : Ev (fun k => bellmantop_texts.f k l l) true := by
  unfold bellmantop_texts.f
  simp only [if_true]
  exact txt_loop l hl l.length 0 (by omega)
theorem txt_not {a b : List ByteArray} (h : a.length ≠ b.length) : Ev (fun k => bellmantop_texts.f k a b) false := by
  unfold bellmantop_texts.f
  simp only [if_neg (show ¬ (a.length : Int) = (b.length : Int) by omega)]
  exact Ev.now _
theorem j3_go {ts R : List (List UInt8)} {s : List UInt8} (hR : R = ts ∨ R = ts ++ [s]) (hn : ts.length ≤ 8) : Ev (fun k => bellmantop_TopLogged.j3 k (B s) (ts.map B) (R.map B) false) true := by
  refine Ev.step (f := fun k => (bellmantop_texts.f k (R.map B) (ts.map B)).bind fun t431 => if t431 = true then some true else (bellmantop_texts.f k (R.map B) (ts.map B ++ [B s])).bind fun t441 => some t441) (fun k => ?_) ?_
  · have a1 : (([] : List ByteArray).length + (ts.map B).length) < 8796093022208 := by simp; omega
    have a2 : (ts.map B).length < 8796093022208 := by simp; omega
    rw [bellmantop_TopLogged.j3, if_neg (by decide)]
    simp only [Option.bind_some, if_pos a1, List.nil_append, if_pos a2]
  · rcases hR with rfl | rfl
    · refine Ev.bind (txt_refl (by simp; omega)) (f := fun k t431 => _) ?_
      simp only [if_true]
      exact Ev.now _
    · refine Ev.bind (txt_not (by simp)) (f := fun k t431 => _) ?_
      simp only [Bool.false_eq_true, if_false]
      refine Ev.bind (a := true) ?_ (f := fun k t441 => _) (Ev.now _)
      have e : (ts ++ [s]).map B = ts.map B ++ [B s] := by simp
      rw [e]
      exact txt_refl (by simp; omega)
theorem blks_len {s : List UInt8} (h : s.length ≤ 200) : (Trl.blksF s).length ≤ 4 := by
  have h8 := dig_len8 (n := (s.length : Int)) ⟨by omega, by omega⟩
  obtain ⟨_, _, h3⟩ := Trl.recF_cut _ (frameL s) [] [] (Nat.le_refl _) (Trl.frameL_ne s)
  have hf : (frameL s).length ≤ 213 := by
    unfold frameL
    rw [List.length_append, List.length_append, numL_length]
    have : (fourL (crc 0 s)).length = 4 := rfl
    omega
  unfold Trl.blksF
  omega
theorem bks_len : ∀ (ts : List (List UInt8)), (∀ x ∈ ts, x.length ≤ 200) → (bks ts).length ≤ 4 * ts.length
  | [], _ => by simp [bks]
  | t :: ts, h => by
    have h1 := blks_len (h t (List.mem_cons_self ..))
    have h2 := bks_len ts (fun x hx => h x (List.mem_cons_of_mem _ hx))
    show ((t :: ts).flatMap Trl.blksF).length ≤ _
    rw [List.flatMap_cons, List.length_append, List.length_cons]
    have h3 : (bks ts).length = (ts.flatMap Trl.blksF).length := rfl
    omega
theorem j2_go (s : List UInt8) (keep : List Int) (ts : List (List UInt8)) (hn : ts.length ≤ 8) (h2 : ∀ x ∈ ts, x.length ≤ 200) : Ev (fun k => bellmantop_TopLogged.j2 k (B s) keep ((bks ts).length : Int) (ts.map B) z64 (wts 4 ((bks ts).map B)) (-1) false) true := by
  have hU := bks_len ts h2
  have hsz := bks_size ts
  have hb1 : (dv_apply (wts 4 ((bks ts).map B)) z64).length = 64 := by rw [dv_apply_len, z64_len]
  have hb2 : ∀ x ∈ dv_apply (wts 4 ((bks ts).map B)) z64, x.size = 64 := apply_size (fun x hx => hsz _ (wts_mem _ _ _ hx).2.2) z64_size
  have e1 : block_Sync.f z64 (wts 4 ((bks ts).map B)) (-1) false = some (dv_five (DD (dv_apply (wts 4 ((bks ts).map B)) z64) (4 + (bks ts).length) [], 0)) := by
    rw [← sync_go z64_len z64_size (by rw [List.length_map]; omega) hsz (4 + (bks ts).length)]
    exact if_pos (DD_fit z64_len z64_size (by rw [List.length_map]; omega) hsz)
  obtain ⟨K, hK, hKU, hA⟩ : ∃ K : List (List UInt8), (K = [] ∨ s.length ≤ 32768 ∧ K = Trl.blksF s) ∧ (bks ts).length + K.length ≤ 60 ∧ (tr_Append (DD (dv_apply (wts 4 ((bks ts).map B)) z64) (4 + (bks ts).length) []) 4 60 ((bks ts).length : Int) (if s.length ≤ 32768 then (Trl.blksF s).map B else []) (if s.length ≤ 32768 then 0 else 12)).1 = DD (dv_apply (wts 4 ((bks ts).map B)) z64) (4 + (bks ts).length) (K.map B) := by
    rcases app_last (s := s) hb1 hb2 (rfl : 4 + (bks ts).length = 4 + (bks ts).length) (by omega) with h | ⟨h1, h3, h4⟩
    · exact ⟨[], .inl rfl, by simp only [List.length_nil]; omega, h⟩
    · exact ⟨_, .inr ⟨h1, rfl⟩, h3, h4⟩
  have hK64 : ∀ x ∈ K.map B, x.size = 64 := by
    intro x hx
    obtain ⟨y, hy, rfl⟩ := List.mem_map.mp hx
    rw [B_size]
    rcases hK with rfl | ⟨_, rfl⟩
    · cases hy
    · exact Trl.blksF_size s y hy
  have e2 : trail_Append.f (dv_apply (wts 4 ((bks ts).map B)) z64) (wts (4 + (bks ts).length) []) (-1) false 4 60 ((bks ts).length : Int) (B s) = _ := Append_f_eq (DD (dv_apply (wts 4 ((bks ts).map B)) z64) (4 + (bks ts).length) []) (DD_fit hb1 hb2 (by simp only [List.length_nil]; omega) (by simp)) 4 60 ((bks ts).length : Int) s
  generalize hAg : tr_Append (DD (dv_apply (wts 4 ((bks ts).map B)) z64) (4 + (bks ts).length) []) 4 60 ((bks ts).length : Int) (if s.length ≤ 32768 then (Trl.blksF s).map B else []) (if s.length ≤ 32768 then 0 else 12) = A at e2 hA
  obtain ⟨E, n, why⟩ := A
  simp only at hA
  subst hA
  have hC := crash_go hb1 hb2 (p := 4 + (bks ts).length) (l := K.map B) (by rw [List.length_map]; omega) hK64 keep 0
  obtain ⟨hCk, hCf, hCw, hCb, hCo, R, u, hR, hRR⟩ := crash_read keep ts s K (fun x hx => by have := h2 x hx; omega) (by omega) hK hKU _ rfl
  have e3 : block_Crash.f (dv_apply (wts 4 ((bks ts).map B)) z64) (wts (4 + (bks ts).length) (K.map B)) (-1) false keep = some (dv_five (dv_Crash (DD (dv_apply (wts 4 ((bks ts).map B)) z64) (4 + (bks ts).length) (K.map B)) keep)) := if_pos (DD_fit hb1 hb2 (by rw [List.length_map]; omega) hK64)
  rw [hC] at e3
  generalize hCg : DD (cr_go keep 0 (wts (4 + (bks ts).length) (K.map B)) (dv_apply (wts 4 ((bks ts).map B)) z64)) 0 [] = C at *
  have hCfit : dv_fit C := hCk.fit (by rw [hCf]; omega)
  have e4 : trail_Read.f C.b C.w C.f C.d 4 60 = some (R.map B, u, 0) := (Read_f_eq C hCfit 4 60).trans hR
  have hW : (tr_Wipe C 4 60).2 = 0 := by
    unfold tr_Wipe
    rw [if_pos hCo]
    exact wipe_go 4 (by omega) 60 0 C (by omega) hCf (by rw [hCb]; omega) (by rw [hCw]; simp)
  obtain ⟨hWfit, _, hWr, _⟩ := wiped hCfit hW
  have e5 : trail_Wipe.f C.b C.w C.f C.d 4 60 = some (dv_five (tr_Wipe C 4 60)) := if_pos hCfit
  rcases hWg : tr_Wipe C 4 60 with ⟨W, ww⟩
  rw [hWg] at hW hWfit hWr e5
  simp only at hW hWfit hWr
  subst hW
  have e6 : trail_Read.f W.b W.w W.f W.d 4 60 = some ([], 0, 0) := (Read_f_eq W hWfit 4 60).trans hWr
  refine Ev.step (f := fun k => bellmantop_TopLogged.j3 k (B s) (ts.map B) (R.map B) false) (fun k => ?_) (j3_go hRR hn)
  rw [bellmantop_TopLogged.j2, e1]
  simp only [Option.bind_some, dv_five, DD]
  rw [e2]
  simp only [Option.bind_some, tr_six, DD]
  rw [e3]
  simp only [Option.bind_some, dv_five]
  rw [e4, e5]
  simp only [Option.bind_some, dv_five]
  rw [e6]
  simp
theorem l0_go (l : List ByteArray) (s : List UInt8) (keep : List Int) (hl : l.length ≤ 9000000000000000000) : ∀ (d i : Nat) (ts : List (List UInt8)), i + d = l.length → ts.length = i → i ≤ 8 → (∀ x ∈ ts, x.length ≤ 200) → Ev (fun k => bellmantop_TopLogged.l0 k (B s) keep ((bks ts).length : Int) (ts.map B) l (l.length : Int) (i : Int) z64 (wts 4 ((bks ts).map B)) (-1) false) true
  | 0, i, ts, h, ht, h8, h2 => Ev.step (f := fun k => bellmantop_TopLogged.j2 k (B s) keep ((bks ts).length : Int) (ts.map B) z64 (wts 4 ((bks ts).map B)) (-1) false) (fun k => by rw [bellmantop_TopLogged.l0, if_neg (by omega)]) (j2_go s keep ts (by omega) h2)
  | d + 1, i, ts, h, ht, h8, h2 => by
    have hj2 : ∀ t, Ev (fun k => bellmantop_TopLogged.j1 k (B s) keep ((bks ts).length : Int) (ts.map B) t l (l.length : Int) (i : Int) true z64 (wts 4 ((bks ts).map B)) (-1) false) true := fun t => Ev.step (f := fun k => bellmantop_TopLogged.j2 k (B s) keep ((bks ts).length : Int) (ts.map B) z64 (wts 4 ((bks ts).map B)) (-1) false) (fun k => by rw [bellmantop_TopLogged.j1, if_pos rfl]) (j2_go s keep ts (by omega) h2)
    by_cases c8 : (i : Int) = 8
    · exact Ev.step (fun k => by rw [bellmantop_TopLogged.l0, if_pos (by omega), if_pos (by omega), if_pos (by omega), if_pos c8]) (hj2 (rdOf ByteArray.empty l (i : Int)))
    · refine Ev.step (f := fun k => bellmantop_TopLogged.j1 k (B s) keep ((bks ts).length : Int) (ts.map B) (rdOf ByteArray.empty l (i : Int)) l (l.length : Int) (i : Int) (decide (((rdOf ByteArray.empty l (i : Int)).size : Int) > 200)) z64 (wts 4 ((bks ts).map B)) (-1) false) (fun k => by rw [bellmantop_TopLogged.l0, if_pos (by omega), if_pos (by omega), if_pos (by omega), if_neg c8]) ?_
      obtain ⟨t, ht2⟩ : ∃ t, rdOf ByteArray.empty l (i : Int) = B t := ⟨_, (B_data _).symm⟩
      rw [ht2, B_size]
      by_cases c : (t.length : Int) > 200
      · rw [decide_eq_true c]
        exact hj2 (B t)
      · rw [decide_eq_false c]
        have hU := bks_len ts h2
        have hb := blks_len (s := t) (by omega)
        have e1 : trail_Append.f z64 (wts 4 ((bks ts).map B)) (-1) false 4 60 ((bks ts).length : Int) (B t) = _ := Append_f_eq (DD z64 4 ((bks ts).map B)) (DD_fit z64_len z64_size (by rw [List.length_map]; omega) (bks_size ts)) 4 60 ((bks ts).length : Int) t
        rw [app_go z64_len z64_size (bks_size ts) (by rw [List.length_map]) (by omega) (by omega)] at e1
        have ih := l0_go l s keep hl d (i + 1) (ts ++ [t]) (by omega) (by simp [ht]) (by omega) (fun x hx => by
          rcases List.mem_append.mp hx with hx | hx
          · exact h2 x hx
          · rw [List.mem_singleton.mp hx]; omega)
        have e2 : bks (ts ++ [t]) = bks ts ++ Trl.blksF t := by simp [bks]
        rw [e2, List.map_append, List.map_append, List.length_append] at ih
        refine Ev.step (fun k => ?_) ih
        rw [bellmantop_TopLogged.j1, if_neg (by decide), e1]
        simp only [Option.bind_some, tr_six, DD, if_true]
        rw [if_pos (by rw [List.length_map]; omega), dv_wrap i (by omega)]
        rfl
theorem pure_TopLogged : bellmantop_TopLogged.PureU := by
  intro l a keep _ _ hb
  have hl : l.length ≤ (l.map (fun x => (x.size + 1))).sum := len_sum _ (fun _ => by omega) l
  refine Ev.rounds ?_
  unfold bellmantop_TopLogged.f
  rw [top_begins]
  have hm : block_Make.f 64 = some (z64, [], -1, false, 0) := rfl
  rw [hm]
  simp only [Option.bind_some, if_true]
  have := l0_go l a.data.toList keep (by omega) l.length 0 [] (by omega) rfl (by omega) (by simp)
  rw [B_data] at this
  exact this
end Go.Proofs.YthlnjbaichkipaaDoor.XR
namespace Go.Proofs.YthlnjbaichkipaaDoor.Pure
theorem TopLogged : XR.bellmantop_TopLogged.PureU := XR.pure_TopLogged
end Go.Proofs.YthlnjbaichkipaaDoor.Pure
