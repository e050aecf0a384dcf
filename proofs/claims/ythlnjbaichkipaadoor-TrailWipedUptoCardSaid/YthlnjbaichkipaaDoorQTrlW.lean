-- by a program of this session
import Derived.Test.YthlnjbaichkipaaDoorQTrlD
import Derived.Test.YthlnjbaichkipaaDoorXR10
import Derived.Test.YthlnjbaichkipaaDoorXR9
set_option linter.unusedVariables false
set_option linter.unusedSimpArgs false
/-! A region is wiped: what is there behind. -/
namespace Go.Proofs.YthlnjbaichkipaaDoor.XR
open Go.RowKit Go.Proofs.YthlnjbaichkipaaDoorW.PrintWords Go.Proofs.YthlnjbaichkipaaDoorW.PrintLast Go.Proofs.YthlnjbaichkipaaDoorW.PrintMore
theorem hasF_snoc (a : Int) (s : ByteArray) (l : List S60) (x : S60) : hasF a s (l ++ [x]) = if x.f0 = a then x.f1 else hasF a s l := by
  unfold hasF
  rw [List.foldl_append]
  rfl
/-- A write that is answered well. -/
theorem write_yes {D : Dv} {a : Int} {s : ByteArray} (h : (dv_write D a s).2 = 0) : s.size ≤ 64 ∧ (dv_write D a s).1.b = D.b ∧ (dv_write D a s).1.d = D.d ∧ (∀ p, 0 ≤ p → dv_has (dv_write D a s).1 p = if a = p then s ++ dv_zeros (64 - s.size) else dv_has D p) := by
  unfold dv_write at h ⊢
  split at h
  · rename_i h1
    rw [if_pos h1]
    split at h
    · cases h
    · rename_i h2
      rw [if_neg h2]
      split at h
      · cases h
      · rename_i h3
        rw [if_neg h3]
        obtain ⟨e1, e2⟩ := asks_eq ⟨D.b, D.w ++ [⟨a, s ++ dv_zeros (64 - s.size)⟩], D.f, D.d⟩
        refine ⟨by omega, e1, ?_, fun p _ => ?_⟩
        · rcases asks_two ⟨D.b, D.w ++ [⟨a, s ++ dv_zeros (64 - s.size)⟩], D.f, D.d⟩ with ⟨_, h4⟩ | h4
          · exact h4
          · rw [h4] at h; cases h
        · rw [dv_has_F, e1, e2, hasF_snoc, dv_has_F]
  · cases h
theorem zeros64 : (tr_zeros 64) ++ dv_zeros (64 - (tr_zeros 64).size) = tr_zeros 64 := by
  rw [tr_zeros_size]
  have e : dv_zeros (64 - 64) = (⟨#[]⟩ : ByteArray) := rfl
  rw [e]
  apply ByteArray.ext
  rw [ByteArray.data_append]
  simp
/-- A region is zero up to a place. -/
def Zr (D : Dv) (f i : Int) : Prop := ∀ p, 0 ≤ p → p < i → (dv_has D (f + p)).toList = (tr_zeros 64).toList
theorem wipe_yes (f : Int) (hf : 0 ≤ f) : ∀ (k : Nat) (i : Int) (D : Dv), 0 ≤ i → DOk D → D.d = false → Zr D f i → (tr_wipe D f k i).2 = 0 →
    DOk (tr_wipe D f k i).1 ∧ (tr_wipe D f k i).1.d = false ∧ (tr_wipe D f k i).1.b.length = D.b.length ∧ Zr (tr_wipe D f k i).1 f (i + k) ∧ (tr_wipe D f k i).1.f ≤ max D.f 0
  | 0, i, D, hi, hk, hd, hz, _ => ⟨hk, hd, rfl, by show Zr D f (i + ((0 : Nat) : Int)); rw [show i + ((0 : Nat) : Int) = i by omega]; exact hz, by show D.f ≤ _; omega⟩
  | k + 1, i, D, hi, hk, hd, hz, h => by
    rw [tr_wipe] at h ⊢
    by_cases c : (dv_has D (f + i)).toList = (tr_zeros 64).toList
    · rw [if_pos c] at h ⊢
      have := wipe_yes f hf k (i + 1) D (by omega) hk hd (fun p h0 h1 => by
        by_cases e : p = i
        · rw [e]; exact c
        · exact hz p h0 (by omega)) h
      rw [show i + 1 + (k : Int) = i + ((k + 1 : Nat) : Int) by omega] at this
      exact this
    · rw [if_neg c] at h ⊢
      by_cases e : (dv_write D (f + i) (tr_zeros 64)).2 = 0
      · rw [if_pos e] at h ⊢
        obtain ⟨_, w1, w2, w3⟩ := write_yes e
        have hk2 := write_ok hk (f + i) (tr_zeros 64)
        have hf2 := write_f hk.f (f + i) (tr_zeros 64)
        generalize (dv_write D (f + i) (tr_zeros 64)).1 = D2 at *
        obtain ⟨a1, a2, a3, a4, a5⟩ := wipe_yes f hf k (i + 1) D2 (by omega) hk2 (w2.trans hd) (fun p h0 h1 => by
          rw [w3 (f + p) (by omega)]
          by_cases g : f + i = f + p
          · rw [if_pos g, zeros64]
          · rw [if_neg g]
            exact hz p h0 (by omega)) h
        rw [show i + 1 + (k : Int) = i + ((k + 1 : Nat) : Int) by omega] at a4
        exact ⟨a1, a2, by rw [a3, w1], a4, by omega⟩
      · rw [if_neg e] at h
        exact absurd h e
theorem wipe_same (f : Int) (E : Dv) (n : Int) (hz : Zr E f n) : ∀ (k : Nat) (i : Int), 0 ≤ i → i + k ≤ n → tr_wipe E f k i = (E, 0)
  | 0, i, _, _ => rfl
  | k + 1, i, h0, h1 => by
    rw [tr_wipe, if_pos (hz i h0 (by omega))]
    exact wipe_same f E n hz k (i + 1) (by omega) (by omega)
theorem zero_last {s : ByteArray} (h : s.toList = (tr_zeros 64).toList) : bt s 63 = 0 := by
  have e : s = tr_zeros 64 := by
    rw [ByteArray.toList_eq, ByteArray.toList_eq] at h
    exact ByteArray.ext (Array.ext' h)
  rw [e]
  decide
theorem zr_rec {E : Dv} {f n : Int} (hz : Zr E f n) (d : Nat) (hd : (d : Int) ≤ n) : tr_rec E f d 0 [] 0 = some ((⟨#[]⟩ : ByteArray), 0) := by
  cases d with
  | zero => rfl
  | succ d =>
    have h := zero_last (hz 0 (by omega) (by omega))
    rw [tr_rec]
    have h2 : bt (tr_blk E f 0) 63 = 0 := h
    rw [h2, if_neg (by decide), if_neg (by decide)]
theorem open_yes {D : Dv} {f m : Int} (hk : DOk D) (hd : D.d = false) (h : tr_in D.b.length f m) : tr_open D f m = 0 := by
  unfold tr_open
  rw [if_pos ((open_iff D).2 ⟨hk, hd⟩), if_pos h]
theorem Read_f_eq (D : Dv) (h : dv_fit D) (f m : Int) : trail_Read.f D.b D.w D.f D.d f m = tr_Read D f m := if_pos h
theorem Wipe_f_eq (D : Dv) (h : dv_fit D) (f m : Int) : trail_Wipe.f D.b D.w D.f D.d f m = some (dv_five (tr_Wipe D f m)) := if_pos h
/-- Behind a wipe. -/
theorem wiped {D : Dv} {f m : Int} (hfit : dv_fit D) (h : (tr_Wipe D f m).2 = 0) :
    dv_fit (tr_Wipe D f m).1 ∧ DOk (tr_Wipe D f m).1 ∧ tr_Read (tr_Wipe D f m).1 f m = some ([], 0, 0) ∧ tr_Wipe (tr_Wipe D f m).1 f m = ((tr_Wipe D f m).1, 0) := by
  by_cases c : tr_open D f m = 0
  · have e : tr_Wipe D f m = tr_wipe D f m.toNat 0 := by unfold tr_Wipe; rw [if_pos c]
    rw [e] at h ⊢
    obtain ⟨ho, hin⟩ := tr_open_zero c
    obtain ⟨hk, hd⟩ := (open_iff D).1 ho
    obtain ⟨a1, a2, a3, a4, a5⟩ := wipe_yes f hin.2.1 m.toNat 0 D (Int.le_refl 0) hk hd (fun p h0 h1 => absurd h1 (by omega)) h
    have hm0 := hin.1
    rw [show (0 : Int) + (m.toNat : Int) = m by omega] at a4
    generalize (tr_wipe D f m.toNat 0).1 = E at *
    have hop : tr_open E f m = 0 := open_yes a1 a2 (by rw [a3]; exact hin)
    have hfe : dv_fit E := a1.fit (by have := hfit.2.2; omega)
    refine ⟨hfe, a1, ?_, ?_⟩
    · unfold tr_Read
      rw [if_pos hop, tr_recs, show (m - 0).toNat = m.toNat by omega, zr_rec a4 m.toNat (by omega)]
      rfl
    · unfold tr_Wipe
      rw [if_pos hop, wipe_same f E m a4 m.toNat 0 (Int.le_refl 0) (by omega)]
  · have e : tr_Wipe D f m = (dv_dev D, tr_open D f m) := by unfold tr_Wipe; rw [if_neg c]
    rw [e] at h
    exact absurd h c
end Go.Proofs.YthlnjbaichkipaaDoor.XR
