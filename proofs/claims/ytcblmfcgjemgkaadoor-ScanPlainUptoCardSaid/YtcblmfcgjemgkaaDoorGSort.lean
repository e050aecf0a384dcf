-- by a program of this session
import Derived.Test.YtcblmfcgjemgkaaDoorWWords
import Derived.Test.YtcblmfcgjemgkaaDoorWKept
import Derived.Test.YtcblmfcgjemgkaaDoorWLast
import Derived.Test.YtcblmfcgjemgkaaDoorWMore
import Derived.Shelf.SlSortCmp.NoneTotal
set_option linter.unusedVariables false
set_option linter.unusedSimpArgs false
/-! A row of the call's own, sorted by the library in place: from the words of the print to those of the shelf, and back. -/
namespace Go.Proofs.YtcblmfcgjemgkaaDoor
open Go.RowKit Go.Proofs.YtcblmfcgjemgkaaDoorW.PrintWords Go.Proofs.YtcblmfcgjemgkaaDoorW.PrintLast Go.Proofs.YtcblmfcgjemgkaaDoorW.PrintMore Go.Shelf Go.Lib Go.Sort
section
variable {α : Type} [Inhabited α] {d : Kd α} {e : Nat} {enc : α → List Value}
theorem gs_inner {R : α → List Value → Prop} {k : Nat} {xs : List α} {inner : List Value} (hR : ∀ p c, R p c → c = enc p) (h : Reps R k xs inner) (t : Nat) (ht : t < xs.length * k) : inner[t]? = some (enc xs[t / k]!)[t % k]! := by
  have hk : 0 < k := by rcases Nat.eq_zero_or_pos k with h0 | h0; · subst h0; simp at ht
                        · exact h0
  have hj : t / k < xs.length := Nat.div_lt_of_lt_mul (by rw [Nat.mul_comm]; exact ht)
  have hm : t % k < k := Nat.mod_lt _ hk
  have h1 := hR _ _ (h.2 (t / k) xs[t / k] (List.getElem?_eq_getElem hj))
  have hb : t / k * k + t % k = t := by rw [Nat.mul_comm]; exact Nat.div_add_mod t k
  have h2 : ((inner.drop (t / k * k)).take k)[t % k]? = inner[t]? := by
    rw [List.getElem?_take, if_pos hm, List.getElem?_drop, hb]
  have ht' : t < inner.length := by rw [h.1]; exact ht
  rw [h1, List.getElem?_eq_getElem ht'] at h2
  rw [List.getElem?_eq_getElem ht', ← h2, List.getElem!_of_getElem? (l := xs) (List.getElem?_eq_getElem hj), List.getElem!_of_getElem? h2, h2]
theorem gs_flat (k : Nat) (xs : List α) : (flatK enc k xs.toArray).toList.length = xs.length * k := by simp
theorem gs_holds {w : World} {g : Nat} {cur : Array Value} {xs : List α} {inner : List Value} {R : α → List Value → Prop} {k : Nat} (hR : ∀ p c, R p c → c = enc p) (hr : Reps R k xs inner) (hrow : w.heap[g]? = some (.cells cur e (0, 0))) (ht : cur.toList.take (xs.length * k) = inner) :
    HoldsK enc k w g 0 xs.toArray := by
  intro j hj
  have hj' : j < xs.length * k := by simpa using hj
  have h1 := gs_inner hR hr j hj'
  rw [← ht, List.getElem?_take, if_pos hj'] at h1
  refine ⟨?_, ?_⟩
  · rw [Nat.zero_add, get_flatK _ _ _ _ (by simpa using hj')]
    simp only [World.cell?, hrow]
    rw [← Array.getElem?_toList, h1]
    simp
  · simp [World.frozen?, hrow]
theorem gs_block (k : Nat) (ys : Array α) (henc : ∀ x, (enc x).length = k) (j : Nat) (p : α) (hp : ys.toList[j]? = some p) : ((flatK enc k ys).toList.drop (j * k)).take k = enc p := by
  have hj : j < ys.size := by have := (List.getElem?_eq_some_iff.mp hp).1; simpa using this
  have he : ys[j]! = p := by
    rw [getElem!_pos ys j hj]
    have := (List.getElem?_eq_some_iff.mp hp).2
    simpa using this
  have hjk : j * k + k ≤ ys.size * k := by rw [← Nat.succ_mul]; exact Nat.mul_le_mul_right _ hj
  apply List.ext_getElem?
  intro t
  by_cases ht : t < k
  · have e1 : (j * k + t) / k = j := (blk_iff k j _ (by omega)).1 ⟨by omega, by omega⟩
    have e2 : (j * k + t) % k = t := by rw [Nat.mod_eq_sub_div_mul, e1]; omega
    have h := get_flatK enc k ys (j * k + t) (by omega)
    rw [e1, e2, he] at h
    rw [List.getElem?_take, if_pos ht, List.getElem?_drop, Array.getElem?_toList, Array.getElem?_eq_getElem (by simp; omega)]
    rw [getElem!_pos (flatK enc k ys) (j * k + t) (by simp; omega), getElem!_pos (enc p) t (by rw [henc]; exact ht)] at h
    rw [h, List.getElem?_eq_getElem (by rw [henc]; exact ht)]
  · rw [List.getElem?_take, if_neg ht, List.getElem?_eq_none (by rw [henc]; omega)]
theorem gs_done {w0 w w' : World} {P : Nat → Prop} {g cap : Nat} {cur : Array Value} {xs : List α} {ys : Array α} {n : Nat} {os : Array Obj} (henc : ∀ x, (enc x).length = d.sz) (hM : ∀ x w base ok, d.M w base ok x (enc x))
    (hB : Below w0.heap.size w0 w) (hg : w0.heap.size ≤ g) (hP : P g) (hrow : w.heap[g]? = some (.cells cur e (0, 0))) (hnc : xs.length ≤ cap) (hcm : cap ≤ maxLen) (hcs : cur.size = cap * d.sz) (hys : ys.size = xs.length) (hw : w' = sortWorldK enc d.sz w g 0 n ys os) :
    Kd.R d e w' w0.heap.size P (.slice (some ⟨g, 0, none⟩) xs.length cap) ys.toList ∧ Below w0.heap.size w0 w' ∧ Kept w w' P := by
  have hlt : g < w.heap.size := (Array.getElem?_eq_some_iff.mp hrow).1
  have hheap : w'.heap = (w.heap.modify g (onCells (putCells id 0 (flatK enc d.sz ys)))) ++ os := by rw [hw]; rfl
  have hsz : w.heap.size ≤ w'.heap.size := by rw [hheap]; simp
  have hrow' : w'.heap[g]? = some (.cells (putCells id 0 (flatK enc d.sz ys) cur) e (0, 0)) := by
    rw [hheap, Array.getElem?_append_left (by simpa using hlt), Array.getElem?_modify, if_pos rfl, hrow]
    rfl
  have hoth : ∀ k, k < w.heap.size → k ≠ g → w'.heap[k]? = w.heap[k]? := by
    intro k hk hne
    rw [hheap, Array.getElem?_append_left (by simpa using hk), Array.getElem?_modify, if_neg (fun h => hne h.symm)]
  have hos : w'.os = w.os := by rw [hw]; rfl
  have htp : w'.tape = w.tape := by rw [hw]; rfl
  have hout : w'.output = w.output := by rw [hw]; rfl
  have hyl : ys.toList.length = xs.length := (Array.length_toList (xs := ys)).trans hys
  have hcap : ys.size * d.sz ≤ cap * d.sz := Nat.mul_le_mul_right _ (by omega)
  refine ⟨⟨fun k hk => ?_, (flatK enc d.sz ys).toList, ⟨by simp, .inr ⟨g, cap, putCells id 0 (flatK enc d.sz ys) cur, ?_, hg, hrow', ?_, hcm, ?_, ?_⟩⟩, by simp, fun j p hp => ?_⟩, ⟨hos.trans hB.os, htp.trans hB.tape, hout.trans hB.output, Nat.le_trans hB.size hsz, fun k hk => ?_⟩, hsz, fun k hk hnk => ?_⟩
  · simp [Value.ownBlock] at hk
    subst hk; exact hP
  · rw [hyl]
  · rw [hyl]; exact hnc
  · simp [putCells, hcs]
  · apply List.ext_getElem?
    intro t
    rw [Array.length_toList]
    by_cases ht : t < ys.size * d.sz
    · rw [List.getElem?_take, if_pos ht, Array.getElem?_toList, Array.getElem?_toList]
      unfold putCells
      rw [Array.getElem?_mapIdx, Array.getElem?_eq_getElem (show t < cur.size by omega), Array.getElem?_eq_getElem (show t < (flatK enc d.sz ys).size by simpa using ht)]
      simp only [Option.map_some]
      rw [if_pos ⟨Nat.zero_le _, by simpa using ht⟩, Nat.sub_zero, getElem!_pos (flatK enc d.sz ys) t (by simpa using ht)]
      rfl
    · rw [List.getElem?_take, if_neg ht, List.getElem?_eq_none (by simpa using ht)]
  · rw [gs_block d.sz ys henc j p hp]
    exact hM p _ _ _
  · rw [hoth k (by have := hB.size; omega) (by omega)]
    exact hB.block k hk
  · exact hoth k hk (fun h => hnk (h ▸ hP))
end
end Go.Proofs.YtcblmfcgjemgkaaDoor
