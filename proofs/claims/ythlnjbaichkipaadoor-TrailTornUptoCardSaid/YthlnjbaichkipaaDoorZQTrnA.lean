-- by a program of this session
import Derived.Test.YthlnjbaichkipaaDoorZQTopL
set_option linter.unusedVariables false
set_option linter.unusedSimpArgs false
namespace Go.Proofs.YthlnjbaichkipaaDoor.XR
open Go.RowKit Go.Proofs.YthlnjbaichkipaaDoorW.PrintWords Go.Proofs.YthlnjbaichkipaaDoorW.PrintLast Go.Proofs.YthlnjbaichkipaaDoorW.PrintMore Go.Proofs.YthlnjbaichkipaaDoor.Wire Go.Proofs.YthlnjbaichkipaaDoor.Sum
theorem write_f9 {D : Dv} {a : Int} {s : ByteArray} (ht : dv_there D a = true) (hs : s.size = 64) (hw : D.w.length < 4096) : dv_write D a s = (⟨D.b, D.w ++ [⟨a, s⟩], if D.f = 0 then 0 else if D.f = -1 then -1 else D.f - 1, if D.f = 0 then true else D.d⟩, if D.f = 0 then 9 else 0) := by
  unfold dv_write
  rw [if_pos ht, if_neg (by omega), if_neg (by omega), pad64 hs]
  unfold dv_asks
  simp only
  by_cases c : D.f = 0
  · simp [c]
  · simp [c]
theorem wr_fuse : ∀ (l : List ByteArray) (D : Dv) (p : Nat), -1 ≤ D.f → p + l.length ≤ D.b.length → (∀ s ∈ l, s.size = 64) → D.w.length + l.length ≤ 4096 → ∃ (j : Nat) (f' : Int) (d' : Bool) (why : Int), tr_wr D (p : Int) l = (⟨D.b, D.w ++ wts p (l.take j), f', d'⟩, why) ∧ j ≤ l.length ∧ -1 ≤ f' ∧ f' ≤ max D.f 0 ∧ (why = 0 → j = l.length ∧ d' = D.d)
  | [], D, p, hf, _, _, _ => ⟨0, D.f, D.d, 0, by rw [tr_wr]; simp [wts], by simp, hf, by omega, fun _ => ⟨rfl, rfl⟩⟩
  | s :: l, D, p, hf, hp, hs, hw => by
    simp only [List.length_cons] at hp hw
    have e := write_f9 (D := D) (a := (p : Int)) (s := s) (by unfold dv_there; simp; omega) (hs s (List.mem_cons_self ..)) (by omega)
    by_cases c : D.f = 0
    · refine ⟨1, 0, true, 9, ?_, by simp, by omega, by omega, by omega⟩
      rw [tr_wr, e]
      simp [c, wts]
    · simp only [if_neg c] at e
      obtain ⟨j, f', d', why, h1, h2, h3, h4, h5⟩ := wr_fuse l ⟨D.b, D.w ++ [⟨(p : Int), s⟩], if D.f = -1 then -1 else D.f - 1, D.d⟩ (p + 1) (by show -1 ≤ if D.f = -1 then -1 else D.f - 1; split <;> omega) (by show p + 1 + l.length ≤ D.b.length; omega) (fun x hx => hs x (List.mem_cons_of_mem _ hx)) (by simp only [List.length_append, List.length_cons, List.length_nil]; omega)
      refine ⟨j + 1, f', d', why, ?_, by simp; omega, h3, ?_, fun h => ?_⟩
      · rw [tr_wr, e]
        simp only [if_true]
        rw [show (p : Int) + 1 = ((p + 1 : Nat) : Int) by omega, h1, List.take_succ_cons, wts, List.append_assoc]
        rfl
      · simp only at h4
        split at h4 <;> omega
      · obtain ⟨a, b⟩ := h5 h
        exact ⟨by simp [a], b⟩
theorem ap_app (a b : List S60) (l : List ByteArray) : dv_apply (a ++ b) l = dv_apply b (dv_apply a l) := by
  unfold dv_apply
  rw [List.foldl_append]
theorem torn_view (keep : List Int) (f m : Nat) (hfm : f + m ≤ 64) (A K : List (List UInt8)) (hU : A.length + K.length ≤ m) (hK : ∀ s ∈ K, s.length = 64) :
    blkL ⟨cr_go keep 0 (wts (f + A.length) (K.map B)) (dv_apply (wts f (A.map B)) z64), [], -1, false⟩ (f : Int) m 0 = A ++ ((List.range K.length).map (fun j => Trl.tornB (K.getD j []) (cr_n keep j)) ++ List.replicate (m - A.length - K.length) (Trl.zs 64)) := by
  apply List.ext_getElem?
  intro j
  by_cases hj : j < m
  · rw [blkL_get _ (f : Int) m 0 j hj]
    unfold tr_blk
    rw [has_nil rfl]
    simp only
    rw [show ((f : Int) + (0 + (j : Int))).toNat = f + j by omega, cr_wts keep (f + j) _ _ _ _ (by rw [dv_apply_len, z64_len, List.length_map]; omega), ap_wts (f + j) _ _ _ (by rw [z64_len, List.length_map]; omega), List.length_map, List.length_map, z64_get _ (by omega)]
    by_cases c1 : j < A.length
    · rw [if_neg (by omega), if_pos (by omega), List.getElem?_append_left c1, show f + j - f = j by omega, mapB_get A j c1, List.getElem?_eq_getElem c1]
      exact congrArg some (B_toList _)
    · rw [if_neg (show ¬ (f ≤ f + j ∧ f + j < f + A.length) by omega), List.getElem?_append_right (by omega)]
      by_cases c2 : j < A.length + K.length
      · rw [if_pos (by omega), List.getElem?_append_left (by simp; omega), List.getElem?_map, List.getElem?_range (by omega)]
        simp only [Option.map_some]
        have e : f + j - (f + A.length) = j - A.length := by omega
        rw [e, mapB_get K (j - A.length) (by omega), mix_torn _ _ _ (by rw [B_size]; exact hK _ (List.getElem_mem _)) zeros_list, Nat.zero_add, List.getD_eq_getElem?_getD, List.getElem?_eq_getElem (show j - A.length < K.length by omega)]
        exact congrArg some (congrArg (fun x => Trl.tornB x (cr_n keep (j - A.length))) (B_toList _))
      · rw [if_neg (by omega), List.getElem?_append_right (by simp; omega), List.getElem?_replicate, if_pos (by simp; omega), zeros_list]
  · rw [List.getElem?_eq_none (by rw [blkL_len]; omega), List.getElem?_eq_none]
    simp
    omega
end Go.Proofs.YthlnjbaichkipaaDoor.XR
namespace Go.Proofs.YthlnjbaichkipaaDoor.Trl
open Go.Proofs.YthlnjbaichkipaaDoor.Sum Go.Proofs.YthlnjbaichkipaaDoor.Wire
theorem recsF_part (ts : List Bl) (s : Bl) (T : List Bl) (n z : Nat) (hs : ∀ x ∈ ts, x.length ≤ 32768) (h1 : s.length ≤ 32768) (hn : ts.length + 1 < n) (hT : T.length ≤ (blksF s).length) (hz : T.length < (blksF s).length → 0 < z) (ht : ∀ j (hj : j < T.length), ∃ k, T[j] = tornB ((blksF s).getD j []) k) (hZ : ∀ z, recF [] (List.replicate z (zs 64)) = none) :
    recsF n (ts.flatMap blksF ++ (T ++ List.replicate z (zs 64))) = (ts, (ts.flatMap blksF).length) ∨ recsF n (ts.flatMap blksF ++ (T ++ List.replicate z (zs 64))) = (ts ++ [s], (ts.flatMap blksF).length + (blksF s).length) := by
  rcases recF_torn _ (frameL s) [] T (List.replicate z (zs 64)) (Nat.le_refl _) hT ht (fun h => by
    obtain ⟨z', rfl⟩ : ∃ z', z = z' + 1 := ⟨z - 1, by have := hz h; omega⟩
    exact ⟨zs 64, List.replicate z' (zs 64), List.replicate_succ, rfl⟩) with h | h
  · right
    have e : ts.flatMap blksF ++ (T ++ List.replicate z (zs 64)) = (ts ++ [s]).flatMap blksF ++ List.replicate z (zs 64) := by
      rw [h, List.flatMap_append, List.append_assoc]
      simp [blksF]
    rw [e, recsF_all (ts ++ [s]) n _ (fun x hx => by
      rcases List.mem_append.mp hx with hx | hx
      · exact hs x hx
      · rw [List.mem_singleton.mp hx]; exact h1) (by simp; omega) (hZ z)]
    simp
  · left
    rw [recsF_all ts n _ hs (by omega) h]
end Go.Proofs.YthlnjbaichkipaaDoor.Trl
namespace Go.Proofs.YthlnjbaichkipaaDoor.XR
open Go.RowKit Go.Proofs.YthlnjbaichkipaaDoorW.PrintWords Go.Proofs.YthlnjbaichkipaaDoorW.PrintLast Go.Proofs.YthlnjbaichkipaaDoorW.PrintMore Go.Proofs.YthlnjbaichkipaaDoor.Wire Go.Proofs.YthlnjbaichkipaaDoor.Sum
theorem app_fuse {b : List ByteArray} {U : Nat} {s : List UInt8} {fu : Int} (hb : b.length = 64) (hs : ∀ x ∈ b, x.size = 64) (hf : -1 ≤ fu) (hU : U ≤ 64) :
    ∃ (j : Nat) (f' : Int) (d' : Bool) (n why : Int), tr_Append ⟨b, [], fu, false⟩ 0 64 (U : Int) (if s.length ≤ 32768 then (Trl.blksF s).map B else []) (if s.length ≤ 32768 then 0 else 12) = (⟨b, wts U (((Trl.blksF s).take j).map B), f', d'⟩, n, why) ∧ -1 ≤ f' ∧ f' ≤ max fu 0 ∧ (j = 0 ∨ s.length ≤ 32768 ∧ U + (Trl.blksF s).length ≤ 64 ∧ j ≤ (Trl.blksF s).length) ∧ (why = 0 → s.length ≤ 32768 ∧ U + (Trl.blksF s).length ≤ 64 ∧ j = (Trl.blksF s).length ∧ d' = false ∧ n = (U : Int) + (Trl.blksF s).length) := by
  have ho : tr_open ⟨b, [], fu, false⟩ 0 64 = 0 := open_yes ⟨by show b.length ≤ 4096; omega, by simp, hf, hs, by simp⟩ rfl (by show tr_in b.length 0 64; rw [hb]; unfold tr_in; omega)
  unfold tr_Append
  rw [if_pos ho]
  unfold tr_append
  rw [if_neg (by omega)]
  by_cases c : s.length ≤ 32768
  · rw [if_pos c, if_pos c, if_neg (by decide)]
    by_cases c2 : U + (Trl.blksF s).length ≤ 64
    · rw [if_neg (by rw [List.length_map]; omega)]
      obtain ⟨j, f', d', why, h1, h2, h3, h4, h5⟩ := wr_fuse ((Trl.blksF s).map B) ⟨b, [], fu, false⟩ U hf (by rw [List.length_map]; show U + _ ≤ b.length; omega) (fun x hx => by
        obtain ⟨y, hy, rfl⟩ := List.mem_map.mp hx
        rw [B_size]
        exact Trl.blksF_size s y hy) (by rw [List.length_map]; simp only [List.length_nil]; omega)
      rw [show (0 : Int) + (U : Int) = (U : Int) by omega, h1]
      simp only [List.nil_append, List.length_map] at h2 ⊢
      rw [← List.map_take]
      by_cases cw : why = 0
      · obtain ⟨a1, a2⟩ := h5 cw
        rw [List.length_map] at a1
        exact ⟨j, f', d', _, why, by rw [if_pos cw, cw], h3, h4, .inr ⟨c, c2, h2⟩, fun _ => ⟨c, c2, a1, a2, rfl⟩⟩
      · exact ⟨j, f', d', 0, why, by rw [if_neg cw], h3, h4, .inr ⟨c, c2, h2⟩, fun h => absurd h cw⟩
    · rw [if_pos (by rw [List.length_map]; omega)]
      exact ⟨0, fu, false, 0, 8, rfl, hf, by omega, .inl rfl, by omega⟩
  · rw [if_neg c, if_neg c, if_pos (by decide)]
    exact ⟨0, fu, false, 0, 12, rfl, hf, by omega, .inl rfl, by omega⟩
end Go.Proofs.YthlnjbaichkipaaDoor.XR
