-- by a program of this session
import Derived.Test.YthlnjbaichkipaaDoorZQTrlS
import Derived.Test.YthlnjbaichkipaaDoorZQTrlP
import Derived.Test.YthlnjbaichkipaaDoorZQTrlD
import Derived.Test.YthlnjbaichkipaaDoorZXR8
import Derived.Test.YthlnjbaichkipaaDoorZXR7
import Derived.Test.YthlnjbaichkipaaDoorZXR9
set_option linter.unusedVariables false
set_option linter.unusedSimpArgs false
namespace Go.Proofs.YthlnjbaichkipaaDoor.XR
open Go.RowKit Go.Proofs.YthlnjbaichkipaaDoorW.PrintWords Go.Proofs.YthlnjbaichkipaaDoorW.PrintLast Go.Proofs.YthlnjbaichkipaaDoorW.PrintMore Go.Proofs.YthlnjbaichkipaaDoor.Wire Go.Proofs.YthlnjbaichkipaaDoor.Sum
theorem dw_nil : ∀ l : List UInt8, l.dropWhile (· == (0 : UInt8)) = [] ↔ ∀ c ∈ l, c = 0
  | [] => by simp
  | x :: l => by
    rw [List.dropWhile_cons]
    by_cases h : x = 0
    · rw [if_pos (by simp [h]), dw_nil l]
      simp [h]
    · rw [if_neg (by simp [h])]
      constructor
      · intro e; cases e
      · intro e; exact absurd (e x (List.mem_cons_self ..)) h
theorem trim_nil (l : List UInt8) : Lib.trimB l 0 = [] ↔ ∀ c ∈ l, c = 0 := by
  unfold Lib.trimB Lib.trimLeftB Lib.trimRightB
  rw [dw_nil]
  constructor
  · intro h c hc
    have h1 := List.takeWhile_append_dropWhile (p := (· == (0 : UInt8))) (l := l.reverse)
    have h2 : c ∈ l.reverse := List.mem_reverse.mpr hc
    rw [← h1] at h2
    rcases List.mem_append.mp h2 with h2 | h2
    · have := List.all_eq_true.mp List.all_takeWhile c h2
      simpa using this
    · exact h c (List.mem_reverse.mpr h2)
  · intro h c hc
    have h2 := List.mem_reverse.mp hc
    have h3 := List.mem_reverse.mp ((List.dropWhile_sublist _).subset h2)
    exact h c h3
theorem end_eq {acc : List UInt8} (n : Int) (h : acc.length ≤ 1000000) : tr_end acc n = some (match Trl.endF acc with | none => (B [], 0) | some s => (B s, n)) := by
  unfold tr_end
  have e : (⟨acc.toArray⟩ : ByteArray) = B acc := rfl
  rw [e, next_eq (B acc) (by rw [B_size]; omega), B_toList, Option.bind_some]
  simp only
  unfold Trl.endF
  have ht : (tr_trim (B (nextL acc).2.1)).size = 0 ↔ ∀ c ∈ (nextL acc).2.1, c = 0 := by
    rw [← trim_nil]
    unfold tr_trim
    rw [B_toList]
    show (Lib.trimB (nextL acc).2.1 0).toArray.size = 0 ↔ _
    rw [List.size_toArray]
    exact ⟨List.eq_nil_of_length_eq_zero, fun h => by rw [h]; rfl⟩
  by_cases c1 : (nextL acc).2.2 = 0
  · rw [if_pos c1]
    by_cases c2 : (nextL acc).2.1.length < 63
    · rw [if_pos (by rw [B_size]; exact c2)]
      by_cases c3 : ∀ c ∈ (nextL acc).2.1, c = 0
      · rw [if_pos (ht.2 c3), if_pos ⟨c1, c2, c3⟩]
      · rw [if_neg (fun h => c3 (ht.1 h)), if_neg (fun h => c3 h.2.2)]
        rfl
    · rw [if_neg (by rw [B_size]; exact c2), if_neg (fun h => c2 h.2.1)]
      rfl
  · rw [if_neg c1, if_neg (fun h => c1 h.1)]
    rfl
def blkL (D : Dv) (f : Int) : Nat → Int → List (List UInt8)
  | 0, _ => []
  | d + 1, p => (tr_blk D f p).data.toList :: blkL D f d (p + 1)
theorem blkL_len (D : Dv) (f : Int) : ∀ (d : Nat) (p : Int), (blkL D f d p).length = d
  | 0, _ => rfl
  | d + 1, p => by rw [blkL, List.length_cons, blkL_len]
theorem blkL_drop (D : Dv) (f : Int) : ∀ (k d : Nat) (p : Int), (blkL D f d p).drop k = blkL D f (d - k) (p + k)
  | 0, d, p => by rw [List.drop_zero, Nat.sub_zero, show p + ((0 : Nat) : Int) = p by omega]
  | k + 1, 0, p => by rw [Nat.zero_sub]; rfl
  | k + 1, d + 1, p => by
    rw [blkL, List.drop_succ_cons, blkL_drop D f k d (p + 1), show d + 1 - (k + 1) = d - k by omega, show p + 1 + (k : Int) = p + ((k + 1 : Nat) : Int) by omega]
theorem byte_at {b : ByteArray} (h : b.size = 64) (c : UInt8) : bt b 63 = (c.toNat : Int) ↔ b.data.toList.getD 63 0 = c := by
  have hl : b.data.toList.length = 64 := by rw [← h]; exact Array.length_toList
  have h1 := bt_list b 63 (by omega)
  have h2 : bt b 63 = ((b.data.toList[63]'(by omega)).toNat : Int) := h1
  rw [h2, List.getD_eq_getElem?_getD, List.getElem?_eq_getElem (by omega), Option.getD_some]
  constructor
  · intro h; exact UInt8.toNat_inj.mp (by omega)
  · intro h; rw [h]
theorem rec_eq (D : Dv) (f : Int) : ∀ (d : Nat) (p : Int) (acc : List UInt8) (n : Int), (∀ j, p ≤ j → j < p + d → (tr_blk D f j).size = 64) → acc.length + 63 * d ≤ 1000000 →
    tr_rec D f d p acc n = some (match Trl.recF acc (blkL D f d p) with | none => (B [], 0) | some q => (B q.1, n + (q.2 : Int)))
  | 0, p, acc, n, _, _ => rfl
  | d + 1, p, acc, n, hz, hl => by
    have hb := hz p (Int.le_refl p) (by omega)
    have hlen : (tr_blk D f p).data.toList.length = 64 := by rw [← hb]; exact Array.length_toList
    have k1 : bt (tr_blk D f p) 63 = 1 ↔ _ := byte_at hb 1
    have k2 : bt (tr_blk D f p) 63 = 2 ↔ _ := byte_at hb 2
    rw [tr_rec, blkL, Trl.recF]
    have ha : (acc ++ (tr_blk D f p).data.toList.take 63).length = acc.length + 63 := by rw [List.length_append, List.length_take, hlen]; omega
    by_cases c1 : (tr_blk D f p).data.toList.getD 63 0 = 1
    · rw [if_pos c1, if_pos (k1.2 c1), rec_eq D f d (p + 1) _ (n + 1) (fun j h0 h1 => hz j (by omega) (by omega)) (by omega)]
      cases Trl.recF (acc ++ (tr_blk D f p).data.toList.take 63) (blkL D f d (p + 1)) with
      | none => rfl
      | some q =>
        simp only [Option.map_some]
        congr 2
        omega
    · rw [if_neg c1, if_neg (fun e => c1 (k1.1 e))]
      by_cases c2 : (tr_blk D f p).data.toList.getD 63 0 = 2
      · rw [if_pos c2, if_pos (k2.2 c2), end_eq _ (by omega)]
        cases Trl.endF (acc ++ (tr_blk D f p).data.toList.take 63) with
        | none => rfl
        | some s => rfl
      · rw [if_neg c2, if_neg (fun e => c2 (k2.1 e))]
        rfl
theorem recs_eq (D : Dv) (f m : Int) (hm : m ≤ 4096) (hz : ∀ j, 0 ≤ j → j < m → (tr_blk D f j).size = 64) : ∀ (k : Nat) (u : Int), 0 ≤ u → u ≤ m → (m - u).toNat < k →
    tr_recs D f m k u = some ((Trl.recsF k (blkL D f (m - u).toNat u)).1.map B, u + ((Trl.recsF k (blkL D f (m - u).toNat u)).2 : Int))
  | 0, u, _, _, h => absurd h (by omega)
  | k + 1, u, h0, h1, hk => by
    rw [tr_recs, rec_eq D f _ u [] 0 (fun j a b => hz j (by omega) (by omega)) (by simp only [List.length_nil]; omega), Option.bind_some, Trl.recsF]
    cases hr : Trl.recF [] (blkL D f (m - u).toNat u) with
    | none =>
      simp only [if_true]
      simp
    | some q =>
      have hq := Trl.recF_len hr
      rw [blkL_len] at hq
      simp only
      rw [if_neg (by omega), Int.zero_add, recs_eq D f m hm hz k (u + q.2) (by omega) (by omega) (by omega), blkL_drop, show (m - u).toNat - q.2 = (m - (u + (q.2 : Int))).toNat by omega]
      simp only [Option.map_some, List.map_cons]
      congr 2
      omega
theorem Read_eq2 {D : Dv} {f m : Int} (h : tr_open D f m = 0) : tr_Read D f m = some ((Trl.recsF (m.toNat + 1) (blkL D f m.toNat 0)).1.map B, ((Trl.recsF (m.toNat + 1) (blkL D f m.toNat 0)).2 : Int), 0) := by
  obtain ⟨ho, hin⟩ := tr_open_zero h
  have hch := dv_open_zero ho
  have hl := tr_ok_len hch
  obtain ⟨a1, a2, a3, a4⟩ := hin
  unfold tr_Read
  rw [if_pos h, recs_eq D f m (by omega) (fun j b0 b1 => tr_has_size hch (by omega) (by omega)) (m.toNat + 1) 0 (Int.le_refl 0) a1 (by omega), show (m - 0).toNat = m.toNat by omega]
  simp only [Option.map_some, Int.zero_add]
end Go.Proofs.YthlnjbaichkipaaDoor.XR
