-- by a program of this session
import Derived.Test.YthlnjbaichkipaaDoorQTrlD
import Derived.Test.YthlnjbaichkipaaDoorXR10
import Derived.Test.YthlnjbaichkipaaDoorXR9
import Derived.Test.YthlnjbaichkipaaDoorQTrlR
set_option linter.unusedVariables false
set_option linter.unusedSimpArgs false
/-! A record is appended: what is there behind. -/
namespace Go.Proofs.YthlnjbaichkipaaDoor.XR
open Go.RowKit Go.Proofs.YthlnjbaichkipaaDoorW.PrintWords Go.Proofs.YthlnjbaichkipaaDoorW.PrintLast Go.Proofs.YthlnjbaichkipaaDoorW.PrintMore Go.Proofs.YthlnjbaichkipaaDoor.Wire Go.Proofs.YthlnjbaichkipaaDoor.Sum
theorem hasF_snoc (a : Int) (s : ByteArray) (l : List S60) (x : S60) : hasF a s (l ++ [x]) = if x.f0 = a then x.f1 else hasF a s l := by
  unfold hasF
  rw [List.foldl_append]
  rfl
/-- A write that is answered well. -/
theorem write_yes {D : Dv} {a : Int} {s : ByteArray} (h : (dv_write D a s).2 = 0) : s.size ≤ 64 ∧ (dv_write D a s).1.b = D.b ∧ (dv_write D a s).1.d = D.d ∧ (∀ p, 0 ≤ p → dv_has (dv_write D a s).1 p = if a = p then s ++ dv_zeros (64 - s.size) else dv_has D p) := by
  unfold dv_write at h ⊢
  split at h
  · rename_i h1
    rw [if_pos h1]
    split at h
    · cases h
    · rename_i h2
      rw [if_neg h2]
      split at h
      · cases h
      · rename_i h3
        rw [if_neg h3]
        obtain ⟨e1, e2⟩ := asks_eq ⟨D.b, D.w ++ [⟨a, s ++ dv_zeros (64 - s.size)⟩], D.f, D.d⟩
        refine ⟨by omega, e1, ?_, fun p _ => ?_⟩
        · rcases asks_two ⟨D.b, D.w ++ [⟨a, s ++ dv_zeros (64 - s.size)⟩], D.f, D.d⟩ with ⟨_, h4⟩ | h4
          · exact h4
          · rw [h4] at h; cases h
        · rw [dv_has_F, e1, e2, hasF_snoc, dv_has_F]
  · cases h
theorem zeros64 : (tr_zeros 64) ++ dv_zeros (64 - (tr_zeros 64).size) = tr_zeros 64 := by
  rw [tr_zeros_size]
  have e : dv_zeros (64 - 64) = (⟨#[]⟩ : ByteArray) := rfl
  rw [e]
  apply ByteArray.ext
  rw [ByteArray.data_append]
  simp
/-- A region is zero up to a place. -/
def Zr (D : Dv) (f i : Int) : Prop := ∀ p, 0 ≤ p → p < i → (dv_has D (f + p)).toList = (tr_zeros 64).toList
theorem wipe_yes (f : Int) (hf : 0 ≤ f) : ∀ (k : Nat) (i : Int) (D : Dv), 0 ≤ i → DOk D → D.d = false → Zr D f i → (tr_wipe D f k i).2 = 0 →
    DOk (tr_wipe D f k i).1 ∧ (tr_wipe D f k i).1.d = false ∧ (tr_wipe D f k i).1.b.length = D.b.length ∧ Zr (tr_wipe D f k i).1 f (i + k) ∧ (tr_wipe D f k i).1.f ≤ max D.f 0
  | 0, i, D, hi, hk, hd, hz, _ => ⟨hk, hd, rfl, by show Zr D f (i + ((0 : Nat) : Int)); rw [show i + ((0 : Nat) : Int) = i by omega]; exact hz, by show D.f ≤ _; omega⟩
  | k + 1, i, D, hi, hk, hd, hz, h => by
    rw [tr_wipe] at h ⊢
    by_cases c : (dv_has D (f + i)).toList = (tr_zeros 64).toList
    · rw [if_pos c] at h ⊢
      have := wipe_yes f hf k (i + 1) D (by omega) hk hd (fun p h0 h1 => by
        by_cases e : p = i
        · rw [e]; exact c
        · exact hz p h0 (by omega)) h
      rw [show i + 1 + (k : Int) = i + ((k + 1 : Nat) : Int) by omega] at this
      exact this
    · rw [if_neg c] at h ⊢
      by_cases e : (dv_write D (f + i) (tr_zeros 64)).2 = 0
      · rw [if_pos e] at h ⊢
        obtain ⟨_, w1, w2, w3⟩ := write_yes e
        have hk2 := write_ok hk (f + i) (tr_zeros 64)
        have hf2 := write_f hk.f (f + i) (tr_zeros 64)
        generalize (dv_write D (f + i) (tr_zeros 64)).1 = D2 at *
        obtain ⟨a1, a2, a3, a4, a5⟩ := wipe_yes f hf k (i + 1) D2 (by omega) hk2 (w2.trans hd) (fun p h0 h1 => by
          rw [w3 (f + p) (by omega)]
          by_cases g : f + i = f + p
          · rw [if_pos g, zeros64]
          · rw [if_neg g]
            exact hz p h0 (by omega)) h
        rw [show i + 1 + (k : Int) = i + ((k + 1 : Nat) : Int) by omega] at a4
        exact ⟨a1, a2, by rw [a3, w1], a4, by omega⟩
      · rw [if_neg e] at h
        exact absurd h e
theorem wipe_same (f : Int) (E : Dv) (n : Int) (hz : Zr E f n) : ∀ (k : Nat) (i : Int), 0 ≤ i → i + k ≤ n → tr_wipe E f k i = (E, 0)
  | 0, i, _, _ => rfl
  | k + 1, i, h0, h1 => by
    rw [tr_wipe, if_pos (hz i h0 (by omega))]
    exact wipe_same f E n hz k (i + 1) (by omega) (by omega)
theorem zero_last {s : ByteArray} (h : s.toList = (tr_zeros 64).toList) : bt s 63 = 0 := by
  have e : s = tr_zeros 64 := by
    rw [ByteArray.toList_eq, ByteArray.toList_eq] at h
    exact ByteArray.ext (Array.ext' h)
  rw [e]
  decide
theorem zr_rec {E : Dv} {f n : Int} (hz : Zr E f n) (d : Nat) (hd : (d : Int) ≤ n) : tr_rec E f d 0 [] 0 = some ((⟨#[]⟩ : ByteArray), 0) := by
  cases d with
  | zero => rfl
  | succ d =>
    have h := zero_last (hz 0 (by omega) (by omega))
    rw [tr_rec]
    have h2 : bt (tr_blk E f 0) 63 = 0 := h
    rw [h2, if_neg (by decide), if_neg (by decide)]
theorem open_yes {D : Dv} {f m : Int} (hk : DOk D) (hd : D.d = false) (h : tr_in D.b.length f m) : tr_open D f m = 0 := by
  unfold tr_open
  rw [if_pos ((open_iff D).2 ⟨hk, hd⟩), if_pos h]
theorem Read_f_eq (D : Dv) (h : dv_fit D) (f m : Int) : trail_Read.f D.b D.w D.f D.d f m = tr_Read D f m := if_pos h
theorem Wipe_f_eq (D : Dv) (h : dv_fit D) (f m : Int) : trail_Wipe.f D.b D.w D.f D.d f m = some (dv_five (tr_Wipe D f m)) := if_pos h
/-- Behind a wipe. -/
theorem wiped {D : Dv} {f m : Int} (hfit : dv_fit D) (h : (tr_Wipe D f m).2 = 0) :
    dv_fit (tr_Wipe D f m).1 ∧ DOk (tr_Wipe D f m).1 ∧ tr_Read (tr_Wipe D f m).1 f m = some ([], 0, 0) ∧ tr_Wipe (tr_Wipe D f m).1 f m = ((tr_Wipe D f m).1, 0) := by
  by_cases c : tr_open D f m = 0
  · have e : tr_Wipe D f m = tr_wipe D f m.toNat 0 := by unfold tr_Wipe; rw [if_pos c]
    rw [e] at h ⊢
    obtain ⟨ho, hin⟩ := tr_open_zero c
    obtain ⟨hk, hd⟩ := (open_iff D).1 ho
    obtain ⟨a1, a2, a3, a4, a5⟩ := wipe_yes f hin.2.1 m.toNat 0 D (Int.le_refl 0) hk hd (fun p h0 h1 => absurd h1 (by omega)) h
    have hm0 := hin.1
    rw [show (0 : Int) + (m.toNat : Int) = m by omega] at a4
    generalize (tr_wipe D f m.toNat 0).1 = E at *
    have hop : tr_open E f m = 0 := open_yes a1 a2 (by rw [a3]; exact hin)
    have hfe : dv_fit E := a1.fit (by have := hfit.2.2; omega)
    refine ⟨hfe, a1, ?_, ?_⟩
    · unfold tr_Read
      rw [if_pos hop, tr_recs, show (m - 0).toNat = m.toNat by omega, zr_rec a4 m.toNat (by omega)]
      rfl
    · unfold tr_Wipe
      rw [if_pos hop, wipe_same f E m a4 m.toNat 0 (Int.le_refl 0) (by omega)]
  · have e : tr_Wipe D f m = (dv_dev D, tr_open D f m) := by unfold tr_Wipe; rw [if_neg c]
    rw [e] at h
    exact absurd h c
theorem frame_len2 (s : List UInt8) (h : s.length ≤ 32768) : (frameL s).length ≤ 32768 + 20 := by
  have h8 := dig_len8 (n := (s.length : Int)) ⟨by omega, by omega⟩
  unfold frameL
  rw [List.length_append, List.length_append, numL_length]
  have : (fourL (crc 0 s)).length = 4 := rfl
  omega
/-- A frame's blocks, by their number. -/
theorem cut_form : ∀ (k : Nat) (f : List UInt8), f.length ≤ 63 * (k + 1) → (k = 0 ∨ 63 * k < f.length) → Trl.cutF f = (List.range k).map (fun j => (f.drop (63 * j)).take 63 ++ [(1 : UInt8)]) ++ [f.drop (63 * k) ++ Trl.zs (63 - (f.length - 63 * k)) ++ [(2 : UInt8)]]
  | 0, f, h1, _ => by
    rw [Trl.cutF_last (by omega)]
    simp
  | k + 1, f, h1, h2 => by
    have hd : (f.drop 63).length = f.length - 63 := List.length_drop
    rw [Trl.cutF_long (by omega), cut_form k (f.drop 63) (by omega) (by omega), List.range_succ_eq_map, List.map_cons, List.map_map, hd, List.drop_drop]
    rw [show 63 + 63 * k = 63 * (k + 1) by omega, show f.length - 63 - 63 * k = f.length - 63 * (k + 1) by omega]
    simp only [Nat.mul_zero, List.drop_zero, List.cons_append]
    congr 2
    apply List.map_congr_left
    intro j _
    simp only [Function.comp_apply, List.drop_drop, Nat.succ_eq_add_one]
    rw [show 63 + 63 * j = 63 * (j + 1) by omega]
theorem cut_eq (f : List UInt8) : tr_cut (B f) = (Trl.cutF f).map B := by
  have hz : (B f).size = f.length := B_size f
  have hn : tr_n (B f) = (f.length - 1) / 63 := by unfold tr_n; rw [hz]
  rw [cut_form ((f.length - 1) / 63) f (by omega) (by omega), List.map_append, List.map_map]
  unfold tr_cut tr_outs
  rw [hn]
  congr 1
  · apply List.map_congr_left
    intro j _
    simp only [Function.comp_apply]
    unfold tr_piece
    rw [B_ext, B_toList, show 63 * j + 63 - 63 * j = 63 by omega]
    exact B_append _ _
  · unfold tr_last
    rw [hn, hz, B_ext, B_toList, List.take_of_length_le (by rw [List.length_drop]; omega)]
    have e : ∀ n, tr_zeros n = B (Trl.zs n) := fun n => by
      apply ByteArray.ext
      apply Array.ext'
      show (Lib.repeatL [0] n).toArray.toList = (B (Trl.zs n)).data.toList
      rw [B_toList]
      unfold Trl.zs
      have : ∀ n, Lib.repeatL [(0 : UInt8)] n = List.replicate n 0 := fun n => by
        induction n with
        | zero => rfl
        | succ n ih => rw [List.replicate_succ, ← ih]; rfl
      simp [this]
    rw [e, B_append, List.map_cons, List.map_nil]
    exact congrArg (fun x => [x]) (B_append _ [2])
theorem pad64 {s : ByteArray} (h : s.size = 64) : s ++ dv_zeros (64 - s.size) = s := by
  rw [h]
  have e : dv_zeros (64 - 64) = (⟨#[]⟩ : ByteArray) := rfl
  rw [e]
  apply ByteArray.ext
  rw [ByteArray.data_append]
  simp
/-- Blocks that are all written. -/
theorem wr_yes : ∀ (l : List ByteArray) (D : Dv) (pos : Int), 0 ≤ pos → (∀ s ∈ l, s.size = 64) → DOk D → (tr_wr D pos l).2 = 0 →
    DOk (tr_wr D pos l).1 ∧ (tr_wr D pos l).1.d = D.d ∧ (tr_wr D pos l).1.b.length = D.b.length ∧ (tr_wr D pos l).1.f ≤ max D.f 0 ∧ (∀ p, 0 ≤ p → dv_has (tr_wr D pos l).1 p = if pos ≤ p ∧ p < pos + (l.length : Int) then l.getD (p - pos).toNat ByteArray.empty else dv_has D p)
  | [], D, pos, _, _, hk, _ => ⟨hk, rfl, rfl, by show D.f ≤ _; omega, fun p _ => by rw [if_neg (by simp only [List.length_nil]; omega)]; rfl⟩
  | s :: l, D, pos, h0, hs, hk, h => by
    rw [tr_wr] at h ⊢
    by_cases c : (dv_write D pos s).2 = 0
    · rw [if_pos c] at h ⊢
      obtain ⟨_, w1, w2, w3⟩ := write_yes c
      have hk2 := write_ok hk pos s
      have hf2 := write_f hk.f pos s
      generalize (dv_write D pos s).1 = D2 at *
      obtain ⟨a1, a2, a3, a4, a5⟩ := wr_yes l D2 (pos + 1) (by omega) (fun x hx => hs x (List.mem_cons_of_mem _ hx)) hk2 h
      refine ⟨a1, a2.trans w2, by rw [a3, w1], by omega, fun p hp => ?_⟩
      rw [a5 p hp, w3 p hp, pad64 (hs s (List.mem_cons_self ..)), List.length_cons]
      by_cases e1 : pos + 1 ≤ p ∧ p < pos + 1 + (l.length : Int)
      · rw [if_pos e1, if_pos (by omega), show (p - pos).toNat = (p - (pos + 1)).toNat + 1 by omega, List.getD_cons_succ]
      · rw [if_neg e1]
        by_cases e2 : pos = p
        · rw [if_pos e2, if_pos (by omega), show (p - pos).toNat = 0 by omega, List.getD_cons_zero]
        · rw [if_neg e2, if_neg (by omega)]
    · rw [if_neg c] at h
      exact absurd h c
theorem blkL_get (D : Dv) (f : Int) : ∀ (d : Nat) (p : Int) (j : Nat), j < d → (blkL D f d p)[j]? = some (tr_blk D f (p + j)).data.toList
  | 0, _, _, h => absurd h (by omega)
  | d + 1, p, 0, _ => by rw [blkL, List.getElem?_cons_zero, show p + ((0 : Nat) : Int) = p by omega]
  | d + 1, p, j + 1, h => by rw [blkL, List.getElem?_cons_succ, blkL_get D f d (p + 1) j (by omega), show p + 1 + (j : Int) = p + ((j + 1 : Nat) : Int) by omega]
/-- A region behind an append. -/
theorem blk_app {D E : Dv} {f : Int} {d u : Nat} {l : List (List UInt8)} (hu : u + l.length ≤ d) (hf : 0 ≤ f) (h : ∀ p, 0 ≤ p → dv_has E p = if f + (u : Int) ≤ p ∧ p < f + (u : Int) + ((l.map B).length : Int) then (l.map B).getD (p - (f + u)).toNat ByteArray.empty else dv_has D p) :
    blkL E f d 0 = (blkL D f d 0).take u ++ (l ++ (blkL D f d 0).drop (u + l.length)) := by
  apply List.ext_getElem?
  intro j
  by_cases hj : j < d
  · rw [blkL_get E f d 0 j hj]
    unfold tr_blk
    rw [h _ (by omega), List.length_map]
    have hlt : ((blkL D f d 0).take u).length = u := by rw [List.length_take, blkL_len]; omega
    by_cases c1 : j < u
    · rw [if_neg (by omega), List.getElem?_append_left (by omega), List.getElem?_take, if_pos c1, blkL_get D f d 0 j hj]
      rfl
    · rw [List.getElem?_append_right (by omega), hlt]
      by_cases c2 : j < u + l.length
      · rw [if_pos (by omega), List.getElem?_append_left (by omega), show (f + (0 + (j : Int)) - (f + (u : Int))).toNat = j - u by omega, List.getD_eq_getElem?_getD, List.getElem?_map, List.getElem?_eq_getElem (by omega)]
        simp only [Option.map_some, Option.getD_some, B_toList]
      · rw [if_neg (by omega), List.getElem?_append_right (by omega), List.getElem?_drop, show u + l.length + (j - u - l.length) = j by omega, blkL_get D f d 0 j hj]
        rfl
  · rw [List.getElem?_eq_none (by rw [blkL_len]; omega), List.getElem?_eq_none]
    rw [List.length_append, List.length_append, List.length_take, List.length_drop, blkL_len]
    omega
theorem Append_f_eq (D : Dv) (h : dv_fit D) (f m u : Int) (s : List UInt8) : trail_Append.f D.b D.w D.f D.d f m u (B s) = some (tr_six (tr_Append D f m u (if s.length ≤ 32768 then (Trl.blksF s).map B else []) (if s.length ≤ 32768 then 0 else 12))) := by
  have e : trail_Append.f D.b D.w D.f D.d f m u (B s) = (sum_Frame.f (B s)).bind fun q => if q.1.size ≤ 1000000 then some (tr_six (tr_Append D f m u (if q.2 = 0 then tr_cut q.1 else []) q.2)) else none := if_pos h
  rw [e, frame_eq]
  by_cases c : s.length ≤ 32768
  · rw [if_pos c, if_pos c, if_pos c, Option.bind_some]
    simp only
    have := frame_len2 s c
    rw [if_pos (by rw [B_size]; omega), if_pos (by trivial), cut_eq]
    rfl
  · rw [if_neg c, if_neg c, if_neg c, Option.bind_some]
    simp only
    rw [if_pos (by rw [B_size]; simp), if_neg (by decide)]
/-- An append that is answered well. -/
theorem append_yes {D : Dv} {f m u : Int} {s : List UInt8} (hfit : dv_fit D) (hopen : tr_open D f m = 0) (hu : 0 ≤ u) (h : (tr_Append D f m u (if s.length ≤ 32768 then (Trl.blksF s).map B else []) (if s.length ≤ 32768 then 0 else 12)).2.2 = 0) :
    s.length ≤ 32768 ∧ ∃ E : Dv, tr_Append D f m u (if s.length ≤ 32768 then (Trl.blksF s).map B else []) (if s.length ≤ 32768 then 0 else 12) = (E, u + ((Trl.blksF s).length : Int), 0) ∧ DOk E ∧ E.d = false ∧ E.b.length = D.b.length ∧ dv_fit E ∧ u + ((Trl.blksF s).length : Int) ≤ m ∧
      (∀ p, 0 ≤ p → dv_has E p = if f + u ≤ p ∧ p < f + u + (((Trl.blksF s).map B).length : Int) then ((Trl.blksF s).map B).getD (p - (f + u)).toNat ByteArray.empty else dv_has D p) := by
  obtain ⟨ho, hin⟩ := tr_open_zero hopen
  obtain ⟨hk, hd⟩ := (open_iff D).1 ho
  unfold tr_Append tr_append at h ⊢
  rw [if_pos hopen] at h ⊢
  by_cases c1 : u < 0 ∨ m < u
  · rw [if_pos c1] at h; cases h
  · rw [if_neg c1] at h ⊢
    by_cases c : s.length ≤ 32768
    · refine ⟨c, ?_⟩
      simp only [if_pos c] at h ⊢
      rw [if_neg (by simp)] at h ⊢
      by_cases c3 : m - u < (((Trl.blksF s).map B).length : Int)
      · rw [if_pos c3] at h; cases h
      · rw [if_neg c3] at h ⊢
        have hsz : ∀ x ∈ (Trl.blksF s).map B, x.size = 64 := fun x hx => by
          obtain ⟨y, hy, rfl⟩ := List.mem_map.mp hx
          rw [B_size]
          exact Trl.blksF_size s y hy
        by_cases c4 : (tr_wr D (f + u) ((Trl.blksF s).map B)).2 = 0
        · rw [if_pos c4]
          obtain ⟨a1, a2, a3, a4, a5⟩ := wr_yes _ D (f + u) (by have := hin.2.1; omega) hsz hk c4
          rw [List.length_map] at c3
          exact ⟨_, by rw [List.length_map], a1, a2.trans hd, a3, a1.fit (by have := hfit.2.2; omega), by omega, a5⟩
        · rw [if_neg c4] at h
          exact absurd h c4
    · simp only [if_neg c] at h
      cases h
/-- An append that is not answered well tells nought. -/
theorem append_no {D : Dv} {f m u : Int} {l : List ByteArray} {why : Int} (h : (tr_Append D f m u l why).2.2 ≠ 0) : (tr_Append D f m u l why).2.1 = 0 := by
  unfold tr_Append tr_append at h ⊢
  repeat' split at h
  all_goals first | rfl | (exfalso; apply h; rfl) | skip
  all_goals (repeat' split) <;> first | rfl | (exfalso; simp_all; done)
/-- What is read behind an append. -/
theorem read_app {D E : Dv} {f m : Int} {s : List UInt8} (hs : s.length ≤ 32768) (hD : tr_open D f m = 0) (hE : tr_open E f m = 0)
    (hu : ((Trl.recsF (m.toNat + 1) (blkL D f m.toNat 0)).2 : Int) + ((Trl.blksF s).length : Int) ≤ m)
    (h : ∀ p, 0 ≤ p → dv_has E p = if f + ((Trl.recsF (m.toNat + 1) (blkL D f m.toNat 0)).2 : Int) ≤ p ∧ p < f + ((Trl.recsF (m.toNat + 1) (blkL D f m.toNat 0)).2 : Int) + (((Trl.blksF s).map B).length : Int) then ((Trl.blksF s).map B).getD (p - (f + ((Trl.recsF (m.toNat + 1) (blkL D f m.toNat 0)).2 : Int))).toNat ByteArray.empty else dv_has D p) :
    ∃ (more : List (List UInt8)) (k : Nat), tr_Read E f m = some (((Trl.recsF (m.toNat + 1) (blkL D f m.toNat 0)).1 ++ s :: more).map B, (((Trl.recsF (m.toNat + 1) (blkL D f m.toNat 0)).2 + ((Trl.blksF s).length + k) : Nat) : Int), 0) := by
  have hin := (tr_open_zero hD).2
  have hm := hin.1
  have hb := blk_app (D := D) (E := E) (f := f) (d := m.toNat) (u := (Trl.recsF (m.toNat + 1) (blkL D f m.toNat 0)).2) (l := Trl.blksF s) (by omega) hin.2.1 h
  rw [Read_eq2 hE, hb]
  generalize hbl : blkL D f m.toNat 0 = bl at *
  have hlen : bl.length = m.toNat := by rw [← hbl, blkL_len]
  obtain ⟨k, hk, e⟩ := Trl.recsF_app (m.toNat + 1) bl (Trl.blksF s ++ bl.drop ((Trl.recsF (m.toNat + 1) bl).2 + (Trl.blksF s).length)) (m.toNat + 1) (by omega) (by
    rw [List.length_append, List.length_append, List.length_take, List.length_drop]; omega)
  have hr := Trl.recF_blks s hs (bl.drop ((Trl.recsF (m.toNat + 1) bl).2 + (Trl.blksF s).length))
  have hr1 := (Trl.recF_len hr).1
  rw [e]
  clear e h hb hu
  generalize Trl.recsF (m.toNat + 1) bl = P at *
  obtain ⟨k', rfl⟩ : ∃ k', k = k' + 1 := ⟨k - 1, by rw [List.length_append] at hk; simp only at hr1; omega⟩
  rw [Trl.recsF, hr]
  exact ⟨_, _, rfl⟩
end Go.Proofs.YthlnjbaichkipaaDoor.XR
