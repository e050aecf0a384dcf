-- several texts of this claim in one, in their order (by a program of this session)
import Derived.Test.YtbimjpafgiogcaaDoorZWA
import Derived.Shelf.SlSortCmp.NoneTotal
import Derived.Test.YtbimjpafgiogcaaDoorChecked
import Derived.Shelf.SlicesQ.IndexFunc
import Derived.Shelf.SlicesG.Cmp
import Derived.WalkKit
import Derived.Deep.LoopGhost
set_option linter.unusedVariables false
set_option linter.unusedSimpArgs false
namespace Go.Proofs.YtbimjpafgiogcaaDoor
open Go.RowKit Go.Proofs.YtbimjpafgiogcaaDoorW.PrintWords Go.Proofs.YtbimjpafgiogcaaDoorW.PrintLast Go.Proofs.YtbimjpafgiogcaaDoorW.PrintMore Go.Shelf Go.Lib Go.Sort
section
variable {α : Type} [Inhabited α] {d : Kd α} {e : Nat} {enc : α → List Value}
theorem gs_inner {R : α → List Value → Prop} {k : Nat} {xs : List α} {inner : List Value} (hR : ∀ p c, R p c → c = enc p) (h : Reps R k xs inner) (t : Nat) (ht : t < xs.length * k) : inner[t]? = some (enc xs[t / k]!)[t % k]! := by
  have hk : 0 < k := by rcases Nat.eq_zero_or_pos k with h0 | h0; · subst h0; simp at ht
                        · exact h0
  have hj : t / k < xs.length := Nat.div_lt_of_lt_mul (by rw [Nat.mul_comm]; exact ht)
  have hm : t % k < k := Nat.mod_lt _ hk
  have h1 := hR _ _ (h.2 (t / k) xs[t / k] (List.getElem?_eq_getElem hj))
  have hb : t / k * k + t % k = t := by rw [Nat.mul_comm]; exact Nat.div_add_mod t k
  have h2 : ((inner.drop (t / k * k)).take k)[t % k]? = inner[t]? := by
    rw [List.getElem?_take, if_pos hm, List.getElem?_drop, hb]
  have ht' : t < inner.length := by rw [h.1]; exact ht
  rw [h1, List.getElem?_eq_getElem ht'] at h2
  rw [List.getElem?_eq_getElem ht', ← h2, List.getElem!_of_getElem? (l := xs) (List.getElem?_eq_getElem hj), List.getElem!_of_getElem? h2, h2]
theorem gs_holds {w : World} {g : Nat} {cur : Array Value} {xs : List α} {inner : List Value} {R : α → List Value → Prop} {k : Nat} (hR : ∀ p c, R p c → c = enc p) (hr : Reps R k xs inner) (hrow : w.heap[g]? = some (.cells cur e (0, 0))) (ht : cur.toList.take (xs.length * k) = inner) :
    HoldsK enc k w g 0 xs.toArray := by
  intro j hj
  have hj' : j < xs.length * k := by simpa using hj
  have h1 := gs_inner hR hr j hj'
  rw [← ht, List.getElem?_take, if_pos hj'] at h1
  refine ⟨?_, ?_⟩
  · rw [Nat.zero_add, get_flatK _ _ _ _ (by simpa using hj')]
    simp only [World.cell?, hrow]
    rw [← Array.getElem?_toList, h1]
    simp
  · simp [World.frozen?, hrow]
theorem gs_block (k : Nat) (ys : Array α) (henc : ∀ x, (enc x).length = k) (j : Nat) (p : α) (hp : ys.toList[j]? = some p) : ((flatK enc k ys).toList.drop (j * k)).take k = enc p := by
  have hj : j < ys.size := by have := (List.getElem?_eq_some_iff.mp hp).1; simpa using this
  have he : ys[j]! = p := by
    rw [getElem!_pos ys j hj]
    have := (List.getElem?_eq_some_iff.mp hp).2
    simpa using this
  have hjk : j * k + k ≤ ys.size * k := by rw [← Nat.succ_mul]; exact Nat.mul_le_mul_right _ hj
  apply List.ext_getElem?
  intro t
  by_cases ht : t < k
  · have e1 : (j * k + t) / k = j := (blk_iff k j _ (by omega)).1 ⟨by omega, by omega⟩
    have e2 : (j * k + t) % k = t := by rw [Nat.mod_eq_sub_div_mul, e1]; omega
    have h := get_flatK enc k ys (j * k + t) (by omega)
    rw [e1, e2, he] at h
    rw [List.getElem?_take, if_pos ht, List.getElem?_drop, Array.getElem?_toList, Array.getElem?_eq_getElem (by simp; omega)]
    rw [getElem!_pos (flatK enc k ys) (j * k + t) (by simp; omega), getElem!_pos (enc p) t (by rw [henc]; exact ht)] at h
    rw [h, List.getElem?_eq_getElem (by rw [henc]; exact ht)]
  · rw [List.getElem?_take, if_neg ht, List.getElem?_eq_none (by rw [henc]; omega)]
theorem gs_done {w0 w w' : World} {P : Nat → Prop} {g cap : Nat} {cur : Array Value} {xs : List α} {ys : Array α} {n : Nat} {os : Array Obj} (henc : ∀ x, (enc x).length = d.sz) (hM : ∀ x w base ok, d.M w base ok x (enc x))
    (hB : Below w0.heap.size w0 w) (hg : w0.heap.size ≤ g) (hP : P g) (hrow : w.heap[g]? = some (.cells cur e (0, 0))) (hnc : xs.length ≤ cap) (hcm : cap ≤ maxLen) (hcs : cur.size = cap * d.sz) (hys : ys.size = xs.length) (hw : w' = sortWorldK enc d.sz w g 0 n ys os) :
    Kd.R d e w' w0.heap.size P (.slice (some ⟨g, 0, none⟩) xs.length cap) ys.toList ∧ Below w0.heap.size w0 w' ∧ Kept w w' P := by
  have hlt : g < w.heap.size := (Array.getElem?_eq_some_iff.mp hrow).1
  have hheap : w'.heap = (w.heap.modify g (onCells (putCells id 0 (flatK enc d.sz ys)))) ++ os := by rw [hw]; rfl
  have hsz : w.heap.size ≤ w'.heap.size := by rw [hheap]; simp
  have hrow' : w'.heap[g]? = some (.cells (putCells id 0 (flatK enc d.sz ys) cur) e (0, 0)) := by
    rw [hheap, Array.getElem?_append_left (by simpa using hlt), Array.getElem?_modify, if_pos rfl, hrow]
    rfl
  have hoth : ∀ k, k < w.heap.size → k ≠ g → w'.heap[k]? = w.heap[k]? := by
    intro k hk hne
    rw [hheap, Array.getElem?_append_left (by simpa using hk), Array.getElem?_modify, if_neg (fun h => hne h.symm)]
  have hos : w'.os = w.os := by rw [hw]; rfl
  have htp : w'.tape = w.tape := by rw [hw]; rfl
  have hout : w'.output = w.output := by rw [hw]; rfl
  have hyl : ys.toList.length = xs.length := (Array.length_toList (xs := ys)).trans hys
  have hcap : ys.size * d.sz ≤ cap * d.sz := Nat.mul_le_mul_right _ (by omega)
  refine ⟨⟨fun k hk => ?_, (flatK enc d.sz ys).toList, ⟨by simp, .inr ⟨g, cap, putCells id 0 (flatK enc d.sz ys) cur, ?_, hg, hrow', ?_, hcm, ?_, ?_⟩⟩, by simp, fun j p hp => ?_⟩, ⟨hos.trans hB.os, htp.trans hB.tape, hout.trans hB.output, Nat.le_trans hB.size hsz, fun k hk => ?_⟩, hsz, fun k hk hnk => ?_⟩
  · simp [Value.ownBlock] at hk
    subst hk; exact hP
  · rw [hyl]
  · rw [hyl]; exact hnc
  · simp [putCells, hcs]
  · apply List.ext_getElem?
    intro t
    rw [Array.length_toList]
    by_cases ht : t < ys.size * d.sz
    · rw [List.getElem?_take, if_pos ht, Array.getElem?_toList, Array.getElem?_toList]
      unfold putCells
      rw [Array.getElem?_mapIdx, Array.getElem?_eq_getElem (show t < cur.size by omega), Array.getElem?_eq_getElem (show t < (flatK enc d.sz ys).size by simpa using ht)]
      simp only [Option.map_some]
      rw [if_pos ⟨Nat.zero_le _, by simpa using ht⟩, Nat.sub_zero, getElem!_pos (flatK enc d.sz ys) t (by simpa using ht)]
      rfl
    · rw [List.getElem?_take, if_neg ht, List.getElem?_eq_none (by simpa using ht)]
  · rw [gs_block d.sz ys henc j p hp]
    exact hM p _ _ _
  · rw [hoth k (by have := hB.size; omega) (by omega)]
    exact hB.block k hk
  · exact hoth k hk (fun h => hnk (h ▸ hP))
end
end Go.Proofs.YtbimjpafgiogcaaDoor
set_option linter.unusedVariables false
set_option linter.unusedSimpArgs false
namespace Go.Proofs
open Go.Shelf Go.RowKit Go.Lib Go.Sort
def Tryd.lay_idx_ren : Go.Shelf.Ren := ⟨fun | 6 => 58 | n => n, fun | 22 => 26 | 23 => 45 | 25 => 101 | 3 => 3 | 0 => 0 | 4 => 4 | n => n, fun | n => n⟩
theorem Tryd.lay_idx : Go.Proofs.SlLaysH0.n6 Tryd.prog Tryd.lay_idx_ren := {
  mixed := by kernel_rfl,
  f6 := ⟨Tryd.f58.name, by decide, Tryd.func58.trans (congrArg some (by kernel_rfl))⟩,
  t0 := Tryd.underlying0,
  a0 := Tryd.isAgg0,
  z0 := Tryd.sizeOf0,
  v0 := Tryd.zeroValue0,
  t3 := Tryd.underlying3,
  a3 := Tryd.isAgg3,
  z3 := Tryd.sizeOf3,
  v3 := Tryd.zeroValue3,
  t4 := Tryd.underlying4,
  a4 := Tryd.isAgg4,
  z4 := Tryd.sizeOf4,
  v4 := Tryd.zeroValue4,
  t22 := Tryd.underlying26,
  a22 := Tryd.isAgg26,
  z22 := Tryd.sizeOf26,
  v22 := Tryd.zeroValue26,
  t25 := Tryd.underlying101,
  a25 := Tryd.isAgg101,
  z25 := Tryd.sizeOf101,
  v25 := Tryd.zeroValue101 }
def Tryd.lay_has_ren : Go.Shelf.Ren := ⟨fun | 8 => 55 | 6 => 58 | n => n, fun | 22 => 26 | 23 => 45 | 25 => 101 | 4 => 4 | 3 => 3 | 0 => 0 | n => n, fun | n => n⟩
theorem Tryd.lay_has : Go.Proofs.SlLaysH0.n8 Tryd.prog Tryd.lay_has_ren := {
  mixed := by kernel_rfl,
  f6 := ⟨Tryd.f58.name, by decide, Tryd.func58.trans (congrArg some (by kernel_rfl))⟩,
  f8 := ⟨Tryd.f55.name, by decide, Tryd.func55.trans (congrArg some (by kernel_rfl))⟩,
  t0 := Tryd.underlying0,
  a0 := Tryd.isAgg0,
  z0 := Tryd.sizeOf0,
  v0 := Tryd.zeroValue0,
  t3 := Tryd.underlying3,
  a3 := Tryd.isAgg3,
  z3 := Tryd.sizeOf3,
  v3 := Tryd.zeroValue3,
  t4 := Tryd.underlying4,
  a4 := Tryd.isAgg4,
  z4 := Tryd.sizeOf4,
  v4 := Tryd.zeroValue4,
  t22 := Tryd.underlying26,
  a22 := Tryd.isAgg26,
  z22 := Tryd.sizeOf26,
  v22 := Tryd.zeroValue26,
  t25 := Tryd.underlying101,
  a25 := Tryd.isAgg101,
  z25 := Tryd.sizeOf101,
  v25 := Tryd.zeroValue101 }
def Tryd.lay_sort_ren : Go.Shelf.Ren := ⟨fun | 6 => 20 | 15 => 31 | 14 => 30 | 28 => 49 | 29 => 29 | 20 => 41 | 21 => 42 | 22 => 43 | 23 => 44 | 24 => 45 | 25 => 46 | 26 => 47 | 27 => 48 | 46 => 62 | 47 => 63 | 48 => 64 | 49 => 65 | 50 => 66 | 57 => 72 | n => n, fun | 22 => 26 | 24 => 45 | 25 => 62 | 3 => 3 | 39 => 54 | 0 => 0 | 53 => 92 | 55 => 52 | 4 => 4 | 46 => 86 | 45 => 85 | 50 => 65 | 5 => 5 | 9 => 9 | 66 => 112 | 70 => 116 | 76 => 123 | 77 => 118 | n => n, fun | n => n⟩
theorem Tryd.lay_sort : Go.Proofs.SlLaysF0.n6 Tryd.prog Tryd.lay_sort_ren := {
  mixed := by kernel_rfl,
  f6 := ⟨Tryd.f20.name, by decide, Tryd.func20.trans (congrArg some (by kernel_rfl))⟩,
  f14 := ⟨Tryd.f30.name, by decide, Tryd.func30.trans (congrArg some (by kernel_rfl))⟩,
  f15 := Tryd.func31.trans (congrArg some (by kernel_rfl)),
  f20 := ⟨Tryd.f41.name, by decide, Tryd.func41.trans (congrArg some (by kernel_rfl))⟩,
  f21 := ⟨Tryd.f42.name, by decide, Tryd.func42.trans (congrArg some (by kernel_rfl))⟩,
  f22 := ⟨Tryd.f43.name, by decide, Tryd.func43.trans (congrArg some (by kernel_rfl))⟩,
  f23 := ⟨Tryd.f44.name, by decide, Tryd.func44.trans (congrArg some (by kernel_rfl))⟩,
  f24 := ⟨Tryd.f45.name, by decide, Tryd.func45.trans (congrArg some (by kernel_rfl))⟩,
  f25 := ⟨Tryd.f46.name, by decide, Tryd.func46.trans (congrArg some (by kernel_rfl))⟩,
  f26 := ⟨Tryd.f47.name, by decide, Tryd.func47.trans (congrArg some (by kernel_rfl))⟩,
  f27 := ⟨Tryd.f48.name, by decide, Tryd.func48.trans (congrArg some (by kernel_rfl))⟩,
  f28 := Tryd.func49.trans (congrArg some (by kernel_rfl)),
  f29 := Tryd.func29.trans (congrArg some (by kernel_rfl)),
  f46 := ⟨Tryd.f62.name, by decide, Tryd.func62.trans (congrArg some (by kernel_rfl))⟩,
  f47 := Tryd.func63.trans (congrArg some (by kernel_rfl)),
  f48 := Tryd.func64.trans (congrArg some (by kernel_rfl)),
  f49 := ⟨Tryd.f65.name, by decide, Tryd.func65.trans (congrArg some (by kernel_rfl))⟩,
  f50 := ⟨Tryd.f66.name, by decide, Tryd.func66.trans (congrArg some (by kernel_rfl))⟩,
  f57 := ⟨Tryd.f72.name, by decide, Tryd.func72.trans (congrArg some (by kernel_rfl))⟩,
  t0 := Tryd.underlying0,
  a0 := Tryd.isAgg0,
  z0 := Tryd.sizeOf0,
  v0 := Tryd.zeroValue0,
  t3 := Tryd.underlying3,
  a3 := Tryd.isAgg3,
  z3 := Tryd.sizeOf3,
  v3 := Tryd.zeroValue3,
  t4 := Tryd.underlying4,
  a4 := Tryd.isAgg4,
  z4 := Tryd.sizeOf4,
  v4 := Tryd.zeroValue4,
  t5 := Tryd.underlying5,
  a5 := Tryd.isAgg5,
  z5 := Tryd.sizeOf5,
  v5 := Tryd.zeroValue5,
  t9 := Tryd.underlying9,
  a9 := Tryd.isAgg9,
  z9 := Tryd.sizeOf9,
  v9 := Tryd.zeroValue9,
  t22 := Tryd.underlying26,
  a22 := Tryd.isAgg26,
  z22 := Tryd.sizeOf26,
  v22 := Tryd.zeroValue26,
  t25 := Tryd.underlying62,
  a25 := Tryd.isAgg62,
  z25 := Tryd.sizeOf62,
  v25 := Tryd.zeroValue62,
  t39 := Tryd.underlying54,
  a39 := Tryd.isAgg54,
  z39 := Tryd.sizeOf54,
  v39 := Tryd.zeroValue54,
  t45 := Tryd.underlying85,
  a45 := Tryd.isAgg85,
  z45 := Tryd.sizeOf85,
  v45 := Tryd.zeroValue85,
  t46 := Tryd.underlying86,
  a46 := Tryd.isAgg86,
  z46 := Tryd.sizeOf86,
  v46 := Tryd.zeroValue86,
  t50 := Tryd.underlying65,
  a50 := Tryd.isAgg65,
  z50 := Tryd.sizeOf65,
  v50 := Tryd.zeroValue65,
  t53 := Tryd.underlying92,
  a53 := Tryd.isAgg92,
  z53 := Tryd.sizeOf92,
  v53 := Tryd.zeroValue92,
  t55 := Tryd.underlying52,
  a55 := Tryd.isAgg52,
  z55 := Tryd.sizeOf52,
  v55 := Tryd.zeroValue52,
  t66 := Tryd.underlying112,
  a66 := Tryd.isAgg112,
  z66 := Tryd.sizeOf112,
  v66 := Tryd.zeroValue112,
  t70 := Tryd.underlying116,
  a70 := Tryd.isAgg116,
  z70 := Tryd.sizeOf116,
  v70 := Tryd.zeroValue116,
  t76 := Tryd.underlying123,
  a76 := Tryd.isAgg123,
  z76 := Tryd.sizeOf123,
  v76 := Tryd.zeroValue123,
  t77 := Tryd.underlying118,
  a77 := Tryd.isAgg118,
  z77 := Tryd.sizeOf118,
  v77 := Tryd.zeroValue118 }
def Tryd.lay_cmp_ren : Go.Shelf.Ren := ⟨fun | 5 => 22 | 7 => 32 | n => n, fun | 22 => 3 | 3 => 3 | 4 => 4 | n => n, fun | n => n⟩
theorem Tryd.lay_cmp : Go.Proofs.SlLaysC2.n5 Tryd.prog Tryd.lay_cmp_ren := {
  mixed := by kernel_rfl,
  f5 := ⟨Tryd.f22.name, by decide, Tryd.func22.trans (congrArg some (by kernel_rfl))⟩,
  f7 := ⟨Tryd.f32.name, by decide, Tryd.func32.trans (congrArg some (by kernel_rfl))⟩,
  t3 := Tryd.underlying3,
  a3 := Tryd.isAgg3,
  z3 := Tryd.sizeOf3,
  v3 := Tryd.zeroValue3,
  t4 := Tryd.underlying4,
  a4 := Tryd.isAgg4,
  z4 := Tryd.sizeOf4,
  v4 := Tryd.zeroValue4,
  t22 := Tryd.underlying3,
  a22 := Tryd.isAgg3,
  z22 := Tryd.sizeOf3,
  v22 := Tryd.zeroValue3 }

end Go.Proofs
set_option linter.unusedVariables false
set_option linter.unusedSimpArgs false
namespace Go.Proofs.YtbimjpafgiogcaaDoor
open Go.RowKit Go.Proofs.YtbimjpafgiogcaaDoorW.PrintWords Go.Proofs.YtbimjpafgiogcaaDoorW.PrintLast Go.Proofs.YtbimjpafgiogcaaDoorW.PrintMore
theorem keys_below_setRow {B g : Nat} {w0 w : World} (hb : Below B w0 w) (hBg : B ≤ g) (cs : Array Value) : Below B w0 (w.setRow g cs) :=
  ⟨hb.os, hb.tape, hb.output, by simpa using hb.size, fun k hk => (setRow_other w g k cs (by omega)).trans (hb.block k hk)⟩
section
variable {P : Program} {ops : Array Oper} {rest : List Oper} {op : Oper} {a : Act} {w : World} {Q : Exit → Act → World → Prop}
theorem keys_store_row (hgd : op.guard = none) (ty : TypeId) (x y : Operand) (ho : op.op = .store ty x y) (g : Nat) (cur cells : Array Value) (t : TypeId)
    (hx : a.eval x = .pointer (some ⟨g, 0, none⟩)) (hy : a.eval y = .agg cells) (hg : w.heap[g]? = some (.cells cur t (0, 0))) (hsz : cur.size = cells.size)
    (hi : (P.info? ty).map (·.size) = some cells.size) (h1 : ∀ v ∈ cells.toList, v.oneCell' = true)
    (h : wpList P ops Q rest (a.put op.dst undef) (w.setRow g cells)) : wpList P ops Q (op :: rest) a w := by
  refine wpList_plain hgd fun _ hK => ?_
  have hs := run_storeCells_at (P := P) g 0 t cells.toList 0 cur w hg (by simp; omega) h1
  have hcur : (List.take (0 + 0) cur.toList ++ cells.toList ++ List.drop (0 + 0 + cells.toList.length) cur.toList).toArray = cells := by
    rw [List.drop_eq_nil_of_le (by simp; omega)]; simp
  rw [hcur] at hs
  cases hq : P.info? ty with
  | none => simp [hq] at hi
  | some i =>
    have hs2 : cells.size = i.size := by simp [hq] at hi; omega
    unfold Oper.wp execOp
    simp only [ho, hx, hy, Instr.storeAt, Instr.sureAddr, Sem.run_bind, Sem.run_pure, Result.andThen_ok]
    simp [storeVar, sizeOf, typeInfo, hq, Value.cells, hs2, hs]
    exact hK _ _ h
end
end Go.Proofs.YtbimjpafgiogcaaDoor
