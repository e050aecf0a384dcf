-- by px.py, a program of this session, over the kit's printer: functions given by hand stand beside printed ones. Lean checks all of it.
import Derived.Test.YtcblmfcgjemgkaaDoorZXS0
import Derived.Test.YtcblmfcgjemgkaaDoorZGMax
import Derived.Test.YtcblmfcgjemgkaaDoorZGA
namespace Go.Proofs.YtcblmfcgjemgkaaDoor.XS
open Go.RowKit Go.Proofs.YtcblmfcgjemgkaaDoorW.PrintWords Go.Proofs.YtcblmfcgjemgkaaDoorW.PrintLast Go.Proofs.YtcblmfcgjemgkaaDoorW.PrintMore
attribute [local go_sem] max2_int min2_int max_two min_two max_three min_three max_four min_four   -- for this text's walks alone
set_option linter.unusedVariables false
set_option linter.unusedSimpArgs false
def sc_empty (x : ByteArray) : Bool := decide (x.size = 0)
def slices_DeleteFunc_string_string.f (l0 : List ByteArray) : Option (List ByteArray) := if 0 < l0.length then some (l0.filter fun x => !sc_empty x) else none
set_option maxHeartbeats 400000 in
set_option maxRecDepth 100000 in
theorem sc_tag1 (x : ByteArray) (W : World) : Calls Tryd.prog 35 #[.string x] W fun e w' => e = .returned (.bool (sc_empty x)) ∧ ∃ q, w' = W.drewN q := by
 have he : (x.toList == ([] : List UInt8)) = sc_empty x := by
  unfold sc_empty
  rw [Bool.eq_iff_iff, beq_iff_eq, decide_eq_true_eq, ByteArray.toList_eq]
  constructor
  ·intro h
   have := congrArg List.length h
   simpa using this
  ·intro h
   have : x.data.size = 0 := h
   simpa using Array.eq_empty_of_size_eq_zero this
 go_enter Tryd.func35, Tryd.ntmps35
 go_wp2
 go_ret
 exact ⟨by first | rfl | simp_all, 0, rfl⟩
set_option maxHeartbeats 1000000 in
theorem slices_DeleteFunc_string_string.calls (P0_ : Nat → Prop) (u9000_ : Value) (l0 : List ByteArray) (r : List ByteArray) (w0 w : World) (hB : Below w0.heap.size w0 w) (ho0 : Kd.R Kd.string 9 w w0.heap.size P0_ u9000_ l0) (h : slices_DeleteFunc_string_string.f l0 = some r) :
  Calls Tryd.prog 34 #[u9000_, .func (.func 35) #[] #[]] w fun e w' => ∃ v0_ : Value, e = .returned (v0_) ∧ Kd.R Kd.string 9 w' w0.heap.size (fun k_ => (P0_ k_ ∨ w.heap.size ≤ k_)) v0_ r ∧ Below w0.heap.size w0 w' ∧ Kept w w' (fun k_ => P0_ k_) := by
 letI : Inhabited ByteArray := ⟨ByteArray.empty⟩
 unfold slices_DeleteFunc_string_string.f at h
 split at h
 rotate_left
 ·cases h
 rename_i h0
 obtain rfl := Option.some.inj h
 clear h
 obtain ⟨hok, inner, ⟨hlen, hor⟩, hreps⟩ := ho0
 rcases hor with ⟨_, h1⟩ | ⟨g, cap, cur, rfl, hg, hrow, hnc, hcm, hcs, htake⟩
 ·omega
 have hks : (Kd.string : Kd ByteArray).sz = 1 := rfl
 rw [hks] at hlen hcs htake hreps
 rw [Nat.mul_one] at hlen hcs htake
 have hPg : P0_ g := hok g (by simp [Value.ownBlock])
 have hlt : g < w.heap.size := (Array.getElem?_eq_some_iff.mp hrow).1
 have hin : inner = l0.map Value.string := by
  apply List.ext_getElem?
  intro j
  rw [List.getElem?_map]
  by_cases hj : j < l0.length
  ·have hp := hreps.2 j _ (List.getElem?_eq_getElem hj)
   have hc : ((inner.drop (j * 1)).take 1) = [.string l0[j]] := hp
   rw [Nat.mul_one, List.take_one, List.head?_drop, List.getElem?_eq_getElem (by omega)] at hc
   rw [List.getElem?_eq_getElem (by omega), List.getElem?_eq_getElem hj]
   simpa using hc
  ·rw [List.getElem?_eq_none (by omega), List.getElem?_eq_none (by omega)]
   rfl
 have hH : Go.Sort.Holds Value.string w g 0 l0.toArray := by
  intro j hj
  have hj' : j < l0.length := by simpa using hj
  refine ⟨?_, by simp [World.frozen?, hrow]⟩
  have e : cur.toList[j]? = inner[j]? := by rw [← htake, List.getElem?_take, if_pos hj']
  rw [cell_of_row w g (0 + j) _ _ _ hrow, Nat.zero_add, ← Array.getElem?_toList, e, hin, List.getElem?_map, List.getElem?_eq_getElem hj']
  simp [getElem!_pos, hj']
 have eg : ∀ args w, (callFunc 35 args).run Tryd.prog w = .ok (.enter 35 args) w := enters_of Tryd.func35 (by kernel_rfl) rfl
 have hsz : l0.toArray.size = l0.length := by simp
 have hcon := Tryd.slices_DeleteFunc (α := ByteArray) Value.string (fun _ => rfl) sc_empty 35 #[] eg ByteArray.empty (fun w => Tryd.zeroValue9 w) g 0 cap l0.toArray w (fun W x _ => sc_tag1 x W) (fun n os dk x _ => sc_tag1 x _) hH (by rw [hsz]; unfold maxLen at hcm; omega) (by rw [hsz]; exact hnc)
 rw [hsz] at hcon
 refine hcon.mono ?_
 rintro e w' ⟨rfl, q, hw⟩
 have hfl := List.length_filter_le (fun x => !sc_empty x) l0
 generalize hfe : (l0.filter fun x => !sc_empty x) = fl at hfl hw ⊢
 obtain ⟨ys, hys⟩ : ∃ ys, ys = (fl ++ List.replicate (l0.length - fl.length) ByteArray.empty).toArray := ⟨_, rfl⟩
 rw [← hys] at hw
 have hyz : ys.size = l0.length := by rw [hys]; simp; omega
 have hheap : w'.heap = w.heap.modify g (Go.Sort.onCells (Go.Sort.putCells Value.string 0 ys)) := by rw [hw]; rfl
 have hsize : w'.heap.size = w.heap.size := by rw [hheap]; simp
 have hrow' : w'.heap[g]? = some (.cells (Go.Sort.putCells Value.string 0 ys cur) 9 (0, 0)) := by
  rw [hheap, Array.getElem?_modify, if_pos rfl, hrow]
  rfl
 have hoth : ∀ k, k ≠ g → w'.heap[k]? = w.heap[k]? := by
  intro k hne
  rw [hheap, Array.getElem?_modify, if_neg (fun h => hne h.symm)]
 have hos : w'.os = w.os := by rw [hw]; rfl
 have htp : w'.tape = w.tape := by rw [hw]; rfl
 have hout : w'.output = w.output := by rw [hw]; rfl
 refine ⟨_, rfl, ⟨fun k hk => ?_, fl.map Value.string, ⟨by simp [hks], .inr ⟨g, cap, Go.Sort.putCells Value.string 0 ys cur, rfl, hg, hrow', by omega, hcm, by simp [Go.Sort.putCells, hcs, hks], ?_⟩⟩, sc_reps (R := Kd.string.M w' w0.heap.size (fun k => (fun k_ => P0_ k_ ∨ w.heap.size ≤ k_) k ∧ some k ≠ (Value.slice (some ⟨g, 0, none⟩) fl.length cap).ownBlock)) (fun _ => rfl) fl⟩, ⟨hos.trans hB.os, htp.trans hB.tape, hout.trans hB.output, by rw [hsize]; exact hB.size, fun k hk => ?_⟩, by rw [hsize]; exact Nat.le_refl _, fun k hk hnk => hoth k (fun h => hnk (h ▸ hPg))⟩
 ·simp [Value.ownBlock] at hk
  subst hk
  exact .inl hPg
 ·rw [hks, Nat.mul_one]
  apply List.ext_getElem?
  intro t
  by_cases ht : t < fl.length
  ·rw [List.getElem?_take, if_pos ht, Array.getElem?_toList]
   unfold Go.Sort.putCells
   rw [Array.getElem?_mapIdx, Array.getElem?_eq_getElem (show t < cur.size by omega)]
   simp only [Option.map_some]
   rw [if_pos ⟨Nat.zero_le _, by omega⟩, Nat.sub_zero, getElem!_pos ys t (by omega), List.getElem?_map, List.getElem?_eq_getElem ht]
   subst hys
   simp [List.getElem_append, ht]
  ·rw [List.getElem?_take, if_neg ht, List.getElem?_eq_none (by simpa using ht)]
 ·rw [hoth k (by omega)]
  exact hB.block k hk


end Go.Proofs.YtcblmfcgjemgkaaDoor.XS
