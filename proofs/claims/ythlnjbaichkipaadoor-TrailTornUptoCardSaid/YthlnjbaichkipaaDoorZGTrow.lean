-- by a program of this session
import Derived.Test.YthlnjbaichkipaaDoorZWWords
import Derived.Test.YthlnjbaichkipaaDoorZWKept
import Derived.Test.YthlnjbaichkipaaDoorZWLast
import Derived.Test.YthlnjbaichkipaaDoorZWMore
import Derived.Test.YthlnjbaichkipaaDoorZWShare
import Derived.Laws.Append
import Derived.Laws.AppendOwn
import Derived.Lib.Hide
set_option linter.unusedVariables false
set_option linter.unusedSimpArgs false
namespace Go.Proofs.YthlnjbaichkipaaDoor
open Go.RowKit Go.Proofs.YthlnjbaichkipaaDoorW.PrintWords Go.Proofs.YthlnjbaichkipaaDoorW.PrintLast Go.Proofs.YthlnjbaichkipaaDoorW.PrintMore
structure Mv (P : Nat → Prop) (w w' : World) : Prop where
  os : w'.os = w.os
  tape : w'.tape = w.tape
  output : w'.output = w.output
  size : w.heap.size ≤ w'.heap.size
  block : ∀ k, k < w.heap.size → ¬ P k → w'.heap[k]? = w.heap[k]?
section
variable {P S : Nat → Prop} {w a b c : World}
theorem Mv.refl (P : Nat → Prop) (w : World) : Mv P w w := ⟨rfl, rfl, rfl, Nat.le_refl _, fun _ _ _ => rfl⟩
theorem Mv.mono (h : Mv P a b) (hp : ∀ k, P k → S k) : Mv S a b := ⟨h.os, h.tape, h.output, h.size, fun k hk hn => h.block k hk (fun h2 => hn (hp k h2))⟩
theorem Mv.then_ (h : Mv P a b) (k : Mv S b c) (hs : ∀ i, S i → P i ∨ a.heap.size ≤ i) : Mv P a c :=
  ⟨k.os.trans h.os, k.tape.trans h.tape, k.output.trans h.output, Nat.le_trans h.size k.size, fun i hi hn => (k.block i (Nat.lt_of_lt_of_le hi h.size) (fun h2 => (hs i h2).elim hn (fun h3 => by omega))).trans (h.block i hi hn)⟩
theorem Mv.of_below (h : Below a.heap.size a b) (P : Nat → Prop) : Mv P a b := ⟨h.os, h.tape, h.output, h.size, fun k hk _ => h.block k hk⟩
theorem Mv.below (h : Mv P a b) (k : Below b.heap.size b c) : Mv P a c := h.then_ (Mv.of_below k (fun _ => False)) (fun _ h => h.elim)
theorem Mv.alloc (h : Mv P a b) (o : Obj) : Mv P a (b.alloc o) := h.below (below_alloc (Below.refl _ _) o)
theorem Mv.drew (h : Mv P a b) : Mv P a b.drew := ⟨h.os, h.tape, h.output, h.size, h.block⟩
theorem Mv.drewN (h : Mv P a b) (n : Nat) : Mv P a (b.drewN n) := ⟨h.os, h.tape, h.output, h.size, h.block⟩
theorem Mv.set (h : Mv P a b) {p : Addr} (hp : P p.block ∨ a.heap.size ≤ p.block) (v : Value) : Mv P a (b.setCell p v) :=
  h.then_ (S := fun k => k = p.block) ⟨rfl, rfl, rfl, by simp [World.setCell], fun i _ hn => Below.heap_setCell b p v i hn⟩ (fun k hk => by rw [hk]; exact hp)
theorem Mv.grown (h : Mv P a b) {row : Option Nat} (hg : b.grownBy c row) (hr : ∀ k, row = some k → P k ∨ a.heap.size ≤ k) : Mv P a c :=
  h.then_ (S := fun k => row = some k) ⟨hg.os, hg.tape, hg.output, hg.size, fun i hi hn => hg.block i hi (fun e => hn e.symm)⟩ hr
theorem Mv.under (h : Mv P a b) {B : Nat} (hB : B ≤ a.heap.size) (hp : ∀ k, P k → B ≤ k) : Below B a b := ⟨h.os, h.tape, h.output, h.size, fun k hk => h.block k (Nat.lt_of_lt_of_le hk hB) (fun h2 => by have := hp k h2; omega)⟩
theorem Mv.kept (h : Mv P a b) : Kept a b P := ⟨h.size, h.block⟩
theorem Mv.cell (h : Mv P a b) {x : Addr} {v : Value} (hc : a.cell? x = some v) (hn : ¬ P x.block) : b.cell? x = some v := cell_kept hc h.kept hn
theorem Mv.blk (h : Mv P a b) {g : Nat} {o : Obj} (hc : a.heap[g]? = some o) (hn : ¬ P g) : b.heap[g]? = some o := blk_kept hc h.kept hn
end
section
variable {α : Type} (enc : α → List Value) (sz : Nat) (E : TypeId)
def CellsOf (cur : Array Value) (l : List α) : Prop := ∀ j x, l[j]? = some x → ∀ t u, (enc x)[t]? = some u → cur[j * sz + t]? = some u
def TRow (w : World) (v : Value) (l : List α) : Prop :=
  (v = .slice none 0 0 ∧ l = []) ∨ ∃ b cap cur, v = .slice (some ⟨b, 0, none⟩) l.length cap ∧ w.heap[b]? = some (.cells cur E (0, 0)) ∧ l.length ≤ cap ∧ cap ≤ maxLen ∧ cap * sz ≤ cur.size ∧ CellsOf enc sz cur l
variable {enc sz E} {w w' : World} {v : Value} {l : List α}
theorem TRow.nil (enc : α → List Value) (sz : Nat) (E : TypeId) (w : World) : TRow enc sz E w (.slice none 0 0) ([] : List α) := .inl ⟨rfl, rfl⟩
theorem TRow.lt (h : TRow enc sz E w v l) : ∀ k, v.ownBlock = some k → k < w.heap.size := by
  intro k hk
  rcases h with ⟨rfl, _⟩ | ⟨b, cap, cur, rfl, hb, _⟩
  · simp [Value.ownBlock] at hk
  · simp [Value.ownBlock] at hk
    subst hk
    exact blk_lt hb
theorem TRow.typed (h : TRow enc sz E w v l) : ∀ k, v.ownBlock = some k → ∃ cur, w.heap[k]? = some (.cells cur E (0, 0)) := by
  intro k hk
  rcases h with ⟨rfl, _⟩ | ⟨b, cap, cur, rfl, hb, _⟩
  · simp [Value.ownBlock] at hk
  · simp [Value.ownBlock] at hk
    subst hk
    exact ⟨cur, hb⟩
theorem TRow.moved (h : TRow enc sz E w v l) (hm : ∀ k, v.ownBlock = some k → w'.heap[k]? = w.heap[k]?) : TRow enc sz E w' v l := by
  rcases h with h | ⟨b, cap, cur, rfl, hb, r⟩
  · exact .inl h
  · exact .inr ⟨b, cap, cur, rfl, (hm b (by simp [Value.ownBlock])).trans hb, r⟩
theorem TRow.form (h : TRow enc sz E w v l) (hp : 0 < l.length) : ∃ b cap cur, v = .slice (some ⟨b, 0, none⟩) l.length cap ∧ w.heap[b]? = some (.cells cur E (0, 0)) ∧ l.length ≤ cap ∧ cap ≤ maxLen ∧ cap * sz ≤ cur.size ∧ CellsOf enc sz cur l := by
  rcases h with ⟨_, rfl⟩ | h
  · simp at hp
  · exact h
theorem TRow.slice (h : TRow enc sz E w v l) : ∃ A c, v = .slice A l.length c ∧ l.length ≤ c := by
  rcases h with ⟨rfl, rfl⟩ | ⟨b, cap, cur, rfl, _, h, _⟩
  · exact ⟨none, 0, rfl, Nat.le_refl _⟩
  · exact ⟨_, cap, rfl, h⟩
theorem TRow.max (h : TRow enc sz E w v l) : l.length ≤ 9223372036854775807 := by
  rcases h with ⟨_, rfl⟩ | ⟨b, cap, cur, _, _, h1, h2, _⟩
  · simp
  · simp only [maxLen] at h2; omega
theorem TRow.cell {b cap : Nat} (h : TRow enc sz E w (.slice (some ⟨b, 0, none⟩) l.length cap) l) {i : Nat} {x : α} (hx : l[i]? = some x) {t : Nat} {u : Value} (hu : (enc x)[t]? = some u) : w.cell? ⟨b, i * sz + t, none⟩ = some u := by
  rcases h with ⟨h, _⟩ | ⟨b', cap', cur, h, hb, _, _, _, hc⟩
  · cases h
  · injection h with h1 h2 h3
    injection h1 with h1
    injection h1 with h1
    subst h1
    rw [blk_cell hb]
    exact hc i x hx t u hu
theorem TRow.frozen {b cap : Nat} (h : TRow enc sz E w (.slice (some ⟨b, 0, none⟩) l.length cap) l) (i : Nat) : w.frozen? ⟨b, i, none⟩ = false := by
  rcases h with ⟨h, _⟩ | ⟨b', cap', cur, h, hb, _⟩
  · cases h
  · injection h with h1
    injection h1 with h1
    injection h1 with h1
    subst h1
    exact blk_frozen hb i
theorem CellsOf.set {cur cur' : Array Value} {i : Nat} {x : α} (h : CellsOf enc sz cur l) (hk : ∀ y, (enc y).length = sz) (hi : i < l.length) (hc : cur'.toList = cur.toList.take (i * sz) ++ enc x ++ cur.toList.drop (i * sz + (enc x).length)) (hs : l.length * sz ≤ cur.size) : CellsOf enc sz cur' (l.set i x) := by
  intro j y hj t u hu
  have ht : t < sz := by have := (List.getElem?_eq_some_iff.1 hu).1; rw [hk] at this; exact this
  have hjl : j < l.length := by have := (List.getElem?_eq_some_iff.1 hj).1; rwa [List.length_set] at this
  have his : i * sz + sz ≤ l.length * sz := by rw [← Nat.succ_mul]; exact Nat.mul_le_mul_right _ hi
  have hcl : cur.toList.length = cur.size := Array.length_toList
  rw [← Array.getElem?_toList, hc, hk x, List.append_assoc]
  have hl1 : (cur.toList.take (i * sz)).length = i * sz := by rw [List.length_take]; omega
  rw [List.getElem?_set] at hj
  by_cases e : i = j
  · subst e
    rw [if_pos rfl, if_pos hi] at hj
    injection hj with hj
    subst hj
    rw [List.getElem?_append_right (by omega), hl1, Nat.add_sub_cancel_left, List.getElem?_append_left (by rw [hk]; exact ht)]
    exact hu
  · rw [if_neg e] at hj
    have h0 := h j y hj t u hu
    rw [← Array.getElem?_toList] at h0
    rcases Nat.lt_or_ge j i with c | c
    · have : j * sz + sz ≤ i * sz := by rw [← Nat.succ_mul]; exact Nat.mul_le_mul_right _ c
      rw [List.getElem?_append_left (by omega), List.getElem?_take, if_pos (by omega)]
      exact h0
    · have hij : i + 1 ≤ j := by omega
      have : i * sz + sz ≤ j * sz := by rw [← Nat.succ_mul]; exact Nat.mul_le_mul_right _ hij
      rw [List.getElem?_append_right (by omega), hl1, List.getElem?_append_right (by rw [hk]; omega), hk, List.getElem?_drop]
      rw [show i * sz + sz + (j * sz + t - i * sz - sz) = j * sz + t by omega]
      exact h0
theorem TRow.set {b cap : Nat} (h : TRow enc sz E w (.slice (some ⟨b, 0, none⟩) l.length cap) l) (hk : ∀ y, (enc y).length = sz) {i : Nat} (hi : i < l.length) (x : α) : TRow enc sz E (w.setCells b (i * sz) (enc x)) (.slice (some ⟨b, 0, none⟩) l.length cap) (l.set i x) := by
  rcases h with ⟨h, _⟩ | ⟨b', cap', cur, h, hb, h1, h2, h3, hc⟩
  · cases h
  · injection h with e1 e2 e3
    injection e1 with e1
    injection e1 with e1
    subst e1 e3
    have his : i * sz + sz ≤ l.length * sz := by rw [← Nat.succ_mul]; exact Nat.mul_le_mul_right _ hi
    have hlc : l.length * sz ≤ cap * sz := Nat.mul_le_mul_right _ h1
    obtain ⟨cur', c1, c2, c3⟩ := setCells_row (enc x) (i * sz) w cur hb (by rw [hk]; omega)
    exact .inr ⟨b, cap, cur', by rw [List.length_set], c1, by rw [List.length_set]; exact h1, h2, by rw [c2]; exact h3, hc.set hk hi c3 (by omega)⟩
theorem TRow.ofR [Inhabited α] {d : Kd α} {base : Nat} {ok : Nat → Prop} (hM : ∀ {w base ok x cs}, d.M w base ok x cs → cs = enc x) (hs : d.sz = sz) (h : d.R E w base ok v l) : TRow enc sz E w v l := by
  obtain ⟨_, inner, ⟨hlen, hor⟩, hreps⟩ := h
  rcases hor with ⟨rfl, h0⟩ | ⟨g, cap, cur, rfl, hg, hrow, hnc, hcm, hcs, htake⟩
  · exact .inl ⟨rfl, List.eq_nil_of_length_eq_zero h0⟩
  · rw [hs] at hlen hcs htake hreps
    refine .inr ⟨g, cap, cur, rfl, hrow, hnc, hcm, by omega, fun j x hj t u hu => ?_⟩
    have hp := hreps.2 j x hj
    have he := hM hp
    rw [← he, List.getElem?_take] at hu
    split at hu
    · rename_i ht
      have hjl : j < l.length := (List.getElem?_eq_some_iff.1 hj).1
      have : j * sz + sz ≤ l.length * sz := by rw [← Nat.succ_mul]; exact Nat.mul_le_mul_right _ hjl
      rw [List.getElem?_drop, ← htake, List.getElem?_take, if_pos (by omega), Array.getElem?_toList] at hu
      exact hu
    · cases hu
theorem TRow.reads {d : Kd α} (hK : ∀ w x, d.K w x (enc x)) (hk : ∀ y, (enc y).length = sz) (hs : d.sz = sz) {A : Option Addr} {n c : Nat} (h : TRow enc sz E w (.slice A n c) l) : d.C w A l.length l := by
  refine ⟨rfl, h.max, fun hp => ?_⟩
  rcases h with ⟨_, rfl⟩ | ⟨b, cap, cur, h, hb, h1, h2, h3, hx⟩
  · simp at hp
  · injection h with e1 e2 e3
    subst e1
    refine ⟨_, rfl, fun j x hj => ⟨enc x, by rw [hk, hs], hK w x, fun t u hu => ?_⟩⟩
    rw [Addr.add_lit, blk_cell hb, hs, Nat.zero_add]
    exact hx j x hj t u hu
theorem TRow.toV {d : Kd α} (hK : ∀ w x, d.K w x (enc x)) (hk : ∀ y, (enc y).length = sz) (hs : d.sz = sz) {ok : Nat → Prop} (base : Nat) (h : TRow enc sz E w v l) (hok : ∀ k, v.ownBlock = some k → ok k) : Kd.V d E w base ok v l := by
  obtain ⟨A, c, rfl, hc⟩ := h.slice
  refine ⟨A, c, rfl, hc, fun W' hW => (TRow.reads hK hk hs (A := A) (n := l.length) (c := c) (h.moved (fun k hk2 => hW k (hok k hk2) (h.lt k hk2))))⟩
theorem run_append_trow {P : Program} {T ty : TypeId} {i : TypeInfo} {z : Value} (ht : P.underlying T = some (.slice E)) (hi : P.info? E = some i) (hz : i.zero = some z) (hsz : i.size = sz) (hzs : z.cells.size = sz) (hb0 : 0 < i.bytes) (hk : ∀ y, (enc y).length = sz) (h1 : ∀ y, ∀ u ∈ enc y, u.oneCell' = true)
    (h : TRow enc sz E w v l) (x : α) (q : Nat) (hx : ∀ t u, (enc x)[t]? = some u → w.cell? ⟨q, t, none⟩ = some u) (hl : (l.length + 1) * i.bytes ≤ 140737488355328) :
    ∃ v1 w1, (Builtin.append_ #[T, T] ty #[v, .slice (some ⟨q, 0, none⟩) 1 1]).run P w = .ok v1 w1 ∧ TRow enc sz E w1 v1 (l ++ [x]) ∧ w.grownBy w1 v.ownBlock ∧ (v1.ownBlock = v.ownBlock ∨ v1.ownBlock = some w.heap.size) := by
  have hnews : ∀ j u, (enc x)[j]? = some u → w.cell? ((⟨q, 0, none⟩ : Addr).add j) = some u := fun j u hu => by rw [add_plain]; exact hx j u hu
  have hlen : l.length + 1 ≤ 140737488355328 := Nat.le_trans (Nat.le_mul_of_pos_right _ hb0) hl
  have hal : (l ++ [x]).length = l.length + 1 := by simp
  have grown : ∀ (old : Nat) (olds : List Value), old < l.length + 1 → olds.length = l.length * sz → (∀ j y, l[j]? = some y → ∀ t u, (enc y)[t]? = some u → olds[j * sz + t]? = some u) → ∀ row : Option Nat,
      TRow enc sz E (w.drew.alloc (.cells (olds.toArray ++ (enc x).toArray ++ Builtin.zeroCells z.cells (grownCap w (l.length + 1) old E - (l.length + 1))) E)) (.slice (some ⟨w.heap.size, 0, none⟩) (l.length + 1) (grownCap w (l.length + 1) old E)) (l ++ [x]) ∧
      w.grownBy (w.drew.alloc (.cells (olds.toArray ++ (enc x).toArray ++ Builtin.zeroCells z.cells (grownCap w (l.length + 1) old E - (l.length + 1))) E)) row := by
    intro old olds ho hlo hol row
    have hge := grownCap_ge w (l.length + 1) old E
    have hcm : grownCap w (l.length + 1) old E ≤ maxLen := grownCap_le_maxLen w (l.length + 1) old E (by unfold maxLen; omega)
    refine ⟨.inr ⟨w.heap.size, _, _, by rw [hal], heap_alloc_new w.drew _, by rw [hal]; exact hge, hcm, ?_, fun j y hj t u hu => ?_⟩, ⟨rfl, rfl, rfl, by simp, fun k hk _ => heap_alloc_old w.drew _ hk⟩⟩
    · simp only [Array.size_append, List.size_toArray, size_zeroCells, hzs, hlo, hk]
      rw [← Nat.succ_mul, ← Nat.add_mul]
      exact Nat.mul_le_mul_right _ (by omega)
    · rw [← Array.getElem?_toList]
      simp only [Array.toList_append, List.append_assoc]
      have hut : t < sz := by have := (List.getElem?_eq_some_iff.1 hu).1; rw [hk] at this; exact this
      rw [List.getElem?_append] at hj
      split at hj
      · rename_i hjl
        have : j * sz + sz ≤ l.length * sz := by rw [← Nat.succ_mul]; exact Nat.mul_le_mul_right _ hjl
        rw [List.getElem?_append_left (by omega)]
        exact hol j y hj t u hu
      · rename_i hjl
        have : j = l.length := by
          rcases Nat.eq_zero_or_pos (j - l.length) with h0 | h0
          · omega
          · rw [List.getElem?_eq_none (by rw [List.length_singleton]; omega)] at hj; cases hj
        subst this
        rw [Nat.sub_self] at hj
        injection hj with hj
        subst hj
        rw [List.getElem?_append_right (by omega), hlo, Nat.add_sub_cancel_left, List.getElem?_append_left (by rw [hk]; exact hut)]
        exact hu
  rcases h with ⟨rfl, rfl⟩ | ⟨b, cap, cur, rfl, hb, h2, h3, h4, hc⟩
  · have hr := run_append_nil (P := P) w T ty E i z ht hi hz ⟨q, 0, none⟩ 1 1 (enc x) (by rw [hk, hsz, Nat.one_mul]) hnews (by omega) (by omega) (by simp at hl; omega)
    have hgr := grown 0 [] (by omega) (by simp) (fun j y hj => by simp at hj) (Value.ownBlock (.slice none 0 0))
    simp only [List.length_nil, Nat.zero_add, Array.empty_append] at hgr
    exact ⟨_, _, hr, hgr.1, hgr.2, .inr rfl⟩
  · have hlc : l.length * sz ≤ cap * sz := Nat.mul_le_mul_right _ h2
    by_cases hroom : l.length + 1 ≤ cap
    · have hrs : l.length * sz + sz ≤ cap * sz := by rw [← Nat.succ_mul]; exact Nat.mul_le_mul_right _ hroom
      have hr := run_append_room (P := P) w T ty E i ht hi b l.length cap cur hb ⟨q, 0, none⟩ 1 1 (enc x) (by rw [hk, hsz, Nat.one_mul]) hnews (h1 x) hroom (by rw [hk, hsz]; omega)
      refine ⟨_, _, hr, .inr ⟨b, cap, _, by rw [hal], setRow_heap w b cur _ E _ hb, by rw [hal]; exact hroom, h3, ?_, fun j y hj t u hu => ?_⟩, ⟨rfl, rfl, rfl, by simp, fun k _ hkk => setRow_other w b k _ (fun e => hkk (by simp [Value.ownBlock, e]))⟩, .inl rfl⟩
      · simp only [List.size_toArray, List.length_append, List.length_take, List.length_drop, Array.length_toList, hk, hsz]
        omega
      · rw [← Array.getElem?_toList]
        simp only [List.append_assoc, hsz]
        have hut : t < sz := by have := (List.getElem?_eq_some_iff.1 hu).1; rw [hk] at this; exact this
        have htl : (cur.toList.take (l.length * sz)).length = l.length * sz := by rw [List.length_take, Array.length_toList]; exact Nat.min_eq_left (Nat.le_trans hlc h4)
        rw [List.getElem?_append] at hj
        split at hj
        · rename_i hjl
          have : j * sz + sz ≤ l.length * sz := by rw [← Nat.succ_mul]; exact Nat.mul_le_mul_right _ hjl
          rw [List.getElem?_append_left (by omega), List.getElem?_take, if_pos (by omega), Array.getElem?_toList]
          exact hc j y hj t u hu
        · rename_i hjl
          have : j = l.length := by
            rcases Nat.eq_zero_or_pos (j - l.length) with h0 | h0
            · omega
            · rw [List.getElem?_eq_none (by rw [List.length_singleton]; omega)] at hj; cases hj
          subst this
          rw [Nat.sub_self] at hj
          injection hj with hj
          subst hj
          rw [List.getElem?_append_right (by omega), htl, Nat.add_sub_cancel_left, List.getElem?_append_left (by rw [hk]; exact hut)]
          exact hu
    · have htl : (cur.toList.take (l.length * sz)).length = l.length * sz := by rw [List.length_take, Array.length_toList]; exact Nat.min_eq_left (Nat.le_trans hlc h4)
      have hcell : ∀ j u, (cur.toList.take (l.length * sz))[j]? = some u → w.cell? ((⟨b, 0, none⟩ : Addr).add j) = some u := fun j u hu => by
        rw [add_plain, blk_cell hb]
        rw [List.getElem?_take] at hu
        split at hu
        · rw [← Array.getElem?_toList]; exact hu
        · cases hu
      have hr := run_append_grow (P := P) w T ty E i z ht hi hz ⟨b, 0, none⟩ l.length cap (cur.toList.take (l.length * sz)) (by rw [htl, hsz]) hcell ⟨q, 0, none⟩ 1 1 (enc x) (by rw [hk, hsz, Nat.one_mul]) hnews (by omega) (by omega) (growslice_fits (by omega) hl)
      have hgr := grown cap (cur.toList.take (l.length * sz)) (by omega) htl (fun j y hj t u hu => by
        have hjl : j < l.length := (List.getElem?_eq_some_iff.1 hj).1
        have hut : t < sz := by have := (List.getElem?_eq_some_iff.1 hu).1; rw [hk] at this; exact this
        have : j * sz + sz ≤ l.length * sz := by rw [← Nat.succ_mul]; exact Nat.mul_le_mul_right _ hjl
        rw [List.getElem?_take, if_pos (by omega), Array.getElem?_toList]
        exact hc j y hj t u hu) (Value.ownBlock (.slice (some ⟨b, 0, none⟩) l.length cap))
      exact ⟨_, _, hr, hgr.1, hgr.2, .inr rfl⟩
end
end Go.Proofs.YthlnjbaichkipaaDoor
