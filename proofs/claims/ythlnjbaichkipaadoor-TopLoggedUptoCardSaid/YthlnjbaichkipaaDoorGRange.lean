-- by a program of this session
import Derived.Test.YthlnjbaichkipaaDoorGTrow
import Derived.RangeFuncNested
import Derived.RangeFuncCalls
import Derived.RangeFuncLeaves
import Derived.OwnWalkIn
set_option linter.unusedVariables false
set_option linter.unusedSimpArgs false
/-! A range over a function whose iterator keeps its state in cells: the statement's law. -/
namespace Go.Proofs.YthlnjbaichkipaaDoor
open Go.RowKit
/-- A loop's book-keeping, of the two blocks from B on. -/
def Keeping (B : Nat) (k : Nat) : Prop := B ≤ k ∧ k < B + 2
theorem mv_putObj {w : World} {l : Nat} (o : Obj) : Mv (fun k => k = l) w (w.putObj l o) :=
  ⟨rfl, rfl, rfl, Nat.le_of_eq World.putObj_size.symm, fun _ _ hn => World.putObj_heap_other hn⟩
theorem wpIn_rangeFunc_cells {F : Fence} {n : Nat} {P : Program} {α : Type} {g : Operand} {ps : Array Tmp} {assign body : Code} {Q : Exit → Act → World → Prop} {a : Act} {w : World}
    (hro : F.round = none) (h1 : 1 ≤ n) {gf : Nat} {lb : Array Value} (hg : a.eval g = .func (.func gf) #[] lb) (hFg : F.fn gf) (eg : ∀ args w, (callFunc gf args).run P w = .ok (.enter gf args) w)
    {encs : α → Array Value} (hps : ∀ x, (encs x).size = ps.size) (Pm Sm : Nat → Prop) (hPm : ∀ k, Pm k → k < w.heap.size) (hSm : ∀ k, Sm k → k < w.heap.size) (N : Nat)
    (I Done : List α → World → Prop) (hI : ∀ pre W W', I pre W → Mv (fun k => Pm k ∨ Keeping w.heap.size k) W W' → I pre W') (hD : ∀ xs W W', Done xs W → Mv (Keeping w.heap.size) W W' → Done xs W')
    (hseq : ∀ (J : List α → World → Prop) (W : World), Below w.heap.size w W → (∀ pre W W', J pre W → Mv Pm W W' → J pre W') →
      (∀ pre x W1, J pre W1 → pre.length < N → YieldAt F (n - 1 - 1) P (w.heap.size + 1) (encs x) W1 fun e W' => e = .returned (.bool true) ∧ J (pre ++ [x]) W' ∧ Mv (fun k => Sm k ∨ w.heap.size ≤ k) W1 W') → J [] W →
      CallsIn F (n - 1) P gf (#[.func (.yield (w.heap.size + 1)) #[] #[]] ++ lb) W fun e W' => (∃ v, e = .returned v) ∧ ∃ xs, Done xs W' ∧ J xs W')
    (h0 : I [] w) (a₁ : α → World → Act) (w₁ : α → World → World) (hw₁ : ∀ x W, Below W.heap.size W (w₁ x W))
    (hassign : ∀ (l : Nat) (x : α) (W : World) (K : Act → World → Prop), K (a₁ x W) (w₁ x W) →
      assign.wpIn (F.inRound l) (n - 1 - 1) P (Exit.then K (fun _ _ _ => False)) { tmps := (ps.zip (encs x)).foldl (fun t (p, v) => t.setIfInBounds p v) a.tmps, defers := [] } W)
    (hbody : ∀ (l : Nat) (pre : List α) (x : α) (W W2 : World), I pre W → pre.length < N → w.heap.size + 2 ≤ W.heap.size → Mv (Keeping w.heap.size) (w₁ x W) W2 →
      body.wpIn (F.inRound l) (n - 1 - 1) P (fun e _ W3 => e = .normal ∧ I (pre ++ [x]) W3 ∧ Mv (fun k => Sm k ∨ w.heap.size + 2 ≤ k) W2 W3) (a₁ x W) W2)
    (hdone : ∀ (xs : List α) (W : World), Done xs W → I xs W → W.heap[w.heap.size]? = some (.deferred (some [])) → Q .normal { a with defers := { target := .collected w.heap.size, args := #[] } :: a.defers } W) :
    (Code.rangeFunc g ps assign body).wpIn F n P Q a w := by
  refine wpIn_rangeFunc ?_
  intro fn hfn
  rw [hro]
  obtain ⟨rec, hrec⟩ : ∃ rec : LoopState → Option Code → Loop, rec = fun st pe => { state := st, pending := pe, fn, tmps := a.tmps, params := ps, assign, body, defers := w.heap.size } := ⟨_, rfl⟩
  obtain ⟨W1, hW1⟩ : ∃ W1, (w.alloc (.deferred (some []))).alloc (.loop (rec .ready none)) = W1 := ⟨_, rfl⟩
  have hL1 : W1.heap[w.heap.size + 1]? = some (.loop (rec .ready none)) := by
    rw [← hW1]; have := World.alloc_heap_new (w.alloc (.deferred (some []))) (.loop (rec .ready none)); rwa [World.size_alloc] at this
  have hK1 : W1.heap[w.heap.size]? = some (.deferred (some [])) := by
    rw [← hW1]; exact (Below.heap_alloc _ _ _ (by simp)).trans (World.alloc_heap_new w _)
  have hB1 : Below w.heap.size w W1 := by rw [← hW1]; exact ((Below.refl _ w).alloc (Nat.le_refl _) _).alloc (by simp) _
  have hI1 : I [] W1 := hI [] _ _ h0 (Mv.of_below hB1 _)
  refine ⟨w.heap.size + 1, [{ target := .collected w.heap.size, args := #[] }], W1, { target := .fn (.func gf) lb, args := #[.func (.yield (w.heap.size + 1)) #[] #[]] }, W1, gf,
    #[.func (.yield (w.heap.size + 1)) #[] #[]] ++ lb, W1, ?_, ?_, ?_, ?_, fun _ => h1, ?_⟩
  · rw [← hW1, hrec]; exact run_enterLoop_outer _ _ _ _ _
  · simp only [resolve, hg]
    simp [go_sem]
  · intro f' hf'; simp [Target.leads] at hf'; subst hf'; exact hFg
  · simp [invoke, go_sem, eg]
  · have nk0 : ∀ k, Pm k → k ≠ w.heap.size ∧ k ≠ w.heap.size + 1 := fun k hk => by have := hPm k hk; omega
    refine (hseq (fun pre W => I pre W ∧ W.heap[w.heap.size + 1]? = some (.loop (rec .ready none)) ∧ W.heap[w.heap.size]? = some (.deferred (some [])))
      W1 hB1
      (fun pre W W' hs hm => ⟨hI pre W W' hs.1 (hm.mono (fun k hk => .inl hk)), (hm.block _ (Array.getElem?_eq_some_iff.1 hs.2.1).1 (fun h => (nk0 _ h).2 rfl)).trans hs.2.1, (hm.block _ (Array.getElem?_eq_some_iff.1 hs.2.2).1 (fun h => (nk0 _ h).1 rfl)).trans hs.2.2⟩)
      ?_ ⟨hI1, hL1, hK1⟩).mono ?_
    · -- one round
      rintro pre x W ⟨hi, hl, hk⟩ hlen
      have hlt : w.heap.size + 1 < W.heap.size := (Array.getElem?_eq_some_iff.1 hl).1
      have hy := run_yield (P := P) (args := encs x) hl (by rw [hrec]; exact hps x)
      rw [hrec] at hy
      have hl1 : (w₁ x W).heap[w.heap.size + 1]? = some (.loop (rec .ready none)) := ((hw₁ x W).block _ hlt).trans hl
      have hk1 : (w₁ x W).heap[w.heap.size]? = some (.deferred (some [])) := ((hw₁ x W).block _ (by omega)).trans hk
      have hlt1 : w.heap.size + 1 < (w₁ x W).heap.size := Nat.lt_of_lt_of_le hlt (hw₁ x W).size
      refine ⟨fn, _, assign, body, hy, roundIn_of_wpIn hfn (hassign _ x W _ ⟨_, run_beginRound hl1 (by rw [hrec]), ?_⟩)⟩
      have hl2 : ((w₁ x W).putObj (w.heap.size + 1) (.loop { rec .ready none with state := .busy })).heap[w.heap.size + 1]? = some (.loop { rec .ready none with state := .busy }) := World.putObj_heap_same hlt1
      have hk2 : ((w₁ x W).putObj (w.heap.size + 1) (.loop { rec .ready none with state := .busy })).heap[w.heap.size]? = some (.deferred (some [])) := (World.putObj_heap_other (by omega)).trans hk1
      have hm2 : Mv (Keeping w.heap.size) (w₁ x W) ((w₁ x W).putObj (w.heap.size + 1) (.loop { rec .ready none with state := .busy })) := (mv_putObj _).mono (fun k hk => by subst hk; exact ⟨by omega, by omega⟩)
      refine wpIn_mono (hbody _ pre x W _ hi hlen (by omega) hm2) ?_
      rintro e a3 W3 ⟨rfl, hi3, hm3⟩
      have hne : ∀ k, k = w.heap.size ∨ k = w.heap.size + 1 → ¬ (Sm k ∨ w.heap.size + 2 ≤ k) := fun k hk h => by
        rcases h with h | h
        · have := hSm k h; omega
        · omega
      have hl3 := (hm3.block _ (Array.getElem?_eq_some_iff.1 hl2).1 (hne _ (.inr rfl))).trans hl2
      have hk3 := (hm3.block _ (Array.getElem?_eq_some_iff.1 hk2).1 (hne _ (.inl rfl))).trans hk2
      have hr := run_endRound (P := P) none hl3
      have hm4 := mv_putObj (w := W3) (l := w.heap.size + 1) (.loop { rec .ready none with state := .ready, pending := none })
      have hmk : Mv (Keeping w.heap.size) W3 (W3.putObj (w.heap.size + 1) (.loop { rec .ready none with state := .ready, pending := none })) := hm4.mono (fun k hk => by subst hk; exact ⟨by omega, by omega⟩)
      have hre : ({ rec .ready none with state := .ready, pending := none } : Loop) = rec .ready none := by rw [hrec]
      refine ⟨_, _, hr, rfl, ⟨?_, ?_, ?_⟩, ?_⟩
      · exact hI _ _ _ hi3 (hmk.mono (fun k hk => .inr hk))
      · exact (World.putObj_heap_same (Array.getElem?_eq_some_iff.1 hl3).1).trans (congrArg (fun z => some (Obj.loop z)) hre)
      · exact (World.putObj_heap_other (by omega)).trans hk3
      · refine Mv.then_ (P := fun k => Sm k ∨ w.heap.size ≤ k) (Mv.then_ (P := fun k => Sm k ∨ w.heap.size ≤ k) (Mv.then_ (P := fun k => Sm k ∨ w.heap.size ≤ k) (Mv.of_below (hw₁ x W) _) hm2 (fun i hi => .inl (.inr hi.1))) hm3 (fun i hi => .inl (hi.imp id (fun h => by omega)))) hmk (fun i hi => .inl (.inr hi.1))
    · -- behind the iterator
      rintro e W2 ⟨⟨v, rfl⟩, xs, hS, hi, hl, hk⟩
      have hmk : Mv (Keeping w.heap.size) W2 (W2.putObj (w.heap.size + 1) (.loop { rec .ready none with state := .exhausted })) := (mv_putObj _).mono (fun k hk => by subst hk; exact ⟨by omega, by omega⟩)
      refine ⟨none, _, ?_, hdone xs _ (hD _ _ _ hS hmk) (hI _ _ _ hi (hmk.mono (fun k hk => .inr hk))) ((World.putObj_heap_other (by omega)).trans hk)⟩
      have := run_endLoop (P := P) hl (by rw [hrec]; simp)
      rw [hrec] at this ⊢
      exact this
/-- A piece of code that is left by its end alone. -/
def byEnd (Q : Exit → Act → World → Prop) : Exit → Act → World → Prop
  | .normal, a, w => Q .normal a w
  | _, _, _ => False
theorem byEnd_normal {Q : Exit → Act → World → Prop} {a : Act} {w : World} (h : Q .normal a w) : byEnd Q .normal a w := h
theorem wp_byEnd {P : Program} {c : Code} {Q : Exit → Act → World → Prop} {a : Act} {w : World} (h : c.wp P (byEnd Q) a w) : c.wp P Q a w :=
  wp_mono h (fun e a w h => by cases e <;> first | exact h | exact h.elim)
/-- append, by its run. -/
theorem wpListIn_append_run {F : Fence} {n : Nat} {P : Program} {w w' : World} {ops : Array Oper} {rest : List Oper} {o : Oper} {a : Act} {Q : Exit → Act → World → Prop}
    (hg : o.guard = none) (s x : Operand) (t : TypeId) (hop : o.op = Op.call { callee := Callee.builtin Builtin.append, args := #[s, x], argTypes := #[t, t] })
    {v y v' : Value} (hs : a.eval s = v) (hx : a.eval x = y) (hrun : (Builtin.append_ #[t, t] o.type #[v, y]).run P w = .ok v' w') (hK : wpListIn F n P ops Q rest (a.put o.dst v') w') :
    wpListIn F n P ops Q (o :: rest) a w := by
  refine wpListIn_plain hg fun K hK' => ?_
  unfold Oper.wpIn
  refine ⟨?_, ?_⟩
  · simp [Oper.about, hop, resolve, Target.leads, Sem.run_pure]
  · rw [Oper.semAt_plain F _ _ (by rw [hop]; intro c hc'; cases hc')]
    simp [execOp, hop, resolve, invoke, builtin, hs, hx, hrun, Result.andThen]
    exact hK' _ _ hK
end Go.Proofs.YthlnjbaichkipaaDoor
