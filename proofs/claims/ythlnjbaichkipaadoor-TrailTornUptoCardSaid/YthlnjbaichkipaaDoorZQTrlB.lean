-- by a program of this session
import Derived.Test.YthlnjbaichkipaaDoorZQTrlD
import Derived.Test.YthlnjbaichkipaaDoorZXR10
import Derived.Test.YthlnjbaichkipaaDoorZXR9
import Derived.Test.YthlnjbaichkipaaDoorZQTrlR
set_option linter.unusedVariables false
set_option linter.unusedSimpArgs false
namespace Go.Proofs.YthlnjbaichkipaaDoor.XR
open Go.RowKit Go.Proofs.YthlnjbaichkipaaDoorW.PrintWords Go.Proofs.YthlnjbaichkipaaDoorW.PrintLast Go.Proofs.YthlnjbaichkipaaDoorW.PrintMore Go.Proofs.YthlnjbaichkipaaDoor.Wire Go.Proofs.YthlnjbaichkipaaDoor.Sum
theorem open_yes {D : Dv} {f m : Int} (hk : DOk D) (hd : D.d = false) (h : tr_in D.b.length f m) : tr_open D f m = 0 := by
  unfold tr_open
  rw [if_pos ((open_iff D).2 ⟨hk, hd⟩), if_pos h]
theorem Read_f_eq (D : Dv) (h : dv_fit D) (f m : Int) : trail_Read.f D.b D.w D.f D.d f m = tr_Read D f m := if_pos h
theorem frame_len2 (s : List UInt8) (h : s.length ≤ 32768) : (frameL s).length ≤ 32768 + 20 := by
  have h8 := dig_len8 (n := (s.length : Int)) ⟨by omega, by omega⟩
  unfold frameL
  rw [List.length_append, List.length_append, numL_length]
  have : (fourL (crc 0 s)).length = 4 := rfl
  omega
theorem cut_form : ∀ (k : Nat) (f : List UInt8), f.length ≤ 63 * (k + 1) → (k = 0 ∨ 63 * k < f.length) → Trl.cutF f = (List.range k).map (fun j => (f.drop (63 * j)).take 63 ++ [(1 : UInt8)]) ++ [f.drop (63 * k) ++ Trl.zs (63 - (f.length - 63 * k)) ++ [(2 : UInt8)]]
  | 0, f, h1, _ => by
    rw [Trl.cutF_last (by omega)]
    simp
  | k + 1, f, h1, h2 => by
    have hd : (f.drop 63).length = f.length - 63 := List.length_drop
    rw [Trl.cutF_long (by omega), cut_form k (f.drop 63) (by omega) (by omega), List.range_succ_eq_map, List.map_cons, List.map_map, hd, List.drop_drop]
    rw [show 63 + 63 * k = 63 * (k + 1) by omega, show f.length - 63 - 63 * k = f.length - 63 * (k + 1) by omega]
    simp only [Nat.mul_zero, List.drop_zero, List.cons_append]
    congr 2
    apply List.map_congr_left
    intro j _
    simp only [Function.comp_apply, List.drop_drop, Nat.succ_eq_add_one]
    rw [show 63 + 63 * j = 63 * (j + 1) by omega]
theorem cut_eq (f : List UInt8) : tr_cut (B f) = (Trl.cutF f).map B := by
  have hz : (B f).size = f.length := B_size f
  have hn : tr_n (B f) = (f.length - 1) / 63 := by unfold tr_n; rw [hz]
  rw [cut_form ((f.length - 1) / 63) f (by omega) (by omega), List.map_append, List.map_map]
  unfold tr_cut tr_outs
  rw [hn]
  congr 1
  · apply List.map_congr_left
    intro j _
    simp only [Function.comp_apply]
    unfold tr_piece
    rw [B_ext, B_toList, show 63 * j + 63 - 63 * j = 63 by omega]
    exact B_append _ _
  · unfold tr_last
    rw [hn, hz, B_ext, B_toList, List.take_of_length_le (by rw [List.length_drop]; omega)]
    have e : ∀ n, tr_zeros n = B (Trl.zs n) := fun n => by
      apply ByteArray.ext
      apply Array.ext'
      show (Lib.repeatL [0] n).toArray.toList = (B (Trl.zs n)).data.toList
      rw [B_toList]
      unfold Trl.zs
      have : ∀ n, Lib.repeatL [(0 : UInt8)] n = List.replicate n 0 := fun n => by
        induction n with
        | zero => rfl
        | succ n ih => rw [List.replicate_succ, ← ih]; rfl
      simp [this]
    rw [e, B_append, List.map_cons, List.map_nil]
    exact congrArg (fun x => [x]) (B_append _ [2])
theorem pad64 {s : ByteArray} (h : s.size = 64) : s ++ dv_zeros (64 - s.size) = s := by
  rw [h]
  have e : dv_zeros (64 - 64) = (⟨#[]⟩ : ByteArray) := rfl
  rw [e]
  apply ByteArray.ext
  rw [ByteArray.data_append]
  simp
theorem blkL_get (D : Dv) (f : Int) : ∀ (d : Nat) (p : Int) (j : Nat), j < d → (blkL D f d p)[j]? = some (tr_blk D f (p + j)).data.toList
  | 0, _, _, h => absurd h (by omega)
  | d + 1, p, 0, _ => by rw [blkL, List.getElem?_cons_zero, show p + ((0 : Nat) : Int) = p by omega]
  | d + 1, p, j + 1, h => by rw [blkL, List.getElem?_cons_succ, blkL_get D f d (p + 1) j (by omega), show p + 1 + (j : Int) = p + ((j + 1 : Nat) : Int) by omega]
theorem Append_f_eq (D : Dv) (h : dv_fit D) (f m u : Int) (s : List UInt8) : trail_Append.f D.b D.w D.f D.d f m u (B s) = some (tr_six (tr_Append D f m u (if s.length ≤ 32768 then (Trl.blksF s).map B else []) (if s.length ≤ 32768 then 0 else 12))) := by
  have e : trail_Append.f D.b D.w D.f D.d f m u (B s) = (sum_Frame.f (B s)).bind fun q => if q.1.size ≤ 1000000 then some (tr_six (tr_Append D f m u (if q.2 = 0 then tr_cut q.1 else []) q.2)) else none := if_pos h
  rw [e, frame_eq]
  by_cases c : s.length ≤ 32768
  · rw [if_pos c, if_pos c, if_pos c, Option.bind_some]
    simp only
    have := frame_len2 s c
    rw [if_pos (by rw [B_size]; omega), if_pos (by trivial), cut_eq]
    rfl
  · rw [if_neg c, if_neg c, if_neg c, Option.bind_some]
    simp only
    rw [if_pos (by rw [B_size]; simp), if_neg (by decide)]
end Go.Proofs.YthlnjbaichkipaaDoor.XR
