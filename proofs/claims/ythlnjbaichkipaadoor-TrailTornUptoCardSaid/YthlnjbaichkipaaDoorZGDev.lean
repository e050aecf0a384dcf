-- by a program of this session
import Derived.Test.YthlnjbaichkipaaDoorZXR0
import Derived.Test.YthlnjbaichkipaaDoorZGTrow
set_option linter.unusedVariables false
set_option linter.unusedSimpArgs false
namespace Go.Proofs.YthlnjbaichkipaaDoor.XR
open Go.RowKit Go.Proofs.YthlnjbaichkipaaDoorW.PrintWords Go.Proofs.YthlnjbaichkipaaDoorW.PrintLast Go.Proofs.YthlnjbaichkipaaDoorW.PrintMore
structure Dv where
  b : List ByteArray
  w : List S60
  f : Int
  d : Bool
def st_enc (x : ByteArray) : List Value := [.string x]
def wt_enc (x : S60) : List Value := [.int .i64 x.f0, .string x.f1]
def DR (w : World) (g : Nat) (D : Dv) : Prop := ∃ A1 c1 A2 c2, w.heap[g]? = some (.cells #[.slice A1 D.b.length c1, .slice A2 D.w.length c2, .int .i64 D.f, .bool D.d] 56 (0, 0)) ∧ D.b.length ≤ c1 ∧ D.w.length ≤ c2 ∧ Kd.C Kd.string w A1 D.b.length D.b ∧ Kd.C k60 w A2 D.w.length D.w
def DQ (P : Nat → Prop) (g : Nat) (w : World) (D : Dv) : Prop := P g ∧ ∃ v1 v2, w.heap[g]? = some (.cells #[v1, v2, .int .i64 D.f, .bool D.d] 56 (0, 0)) ∧ (∀ k, v1.ownBlock = some k → P k) ∧ (∀ k, v2.ownBlock = some k → P k) ∧ TRow st_enc 1 9 w v1 D.b ∧ TRow wt_enc 2 60 w v2 D.w
section
variable {P S : Nat → Prop} {g : Nat} {w w' : World} {D : Dv}
theorem DR.lt (h : DR w g D) : g < w.heap.size := by obtain ⟨_, _, _, _, h, _⟩ := h; exact blk_lt h
theorem DR.below (h : DR w g D) (hb : Below w.heap.size w w') : DR w' g D := by
  obtain ⟨A1, c1, A2, c2, h1, h2, h3, h4, h5⟩ := h
  exact ⟨A1, c1, A2, c2, (hb.block g (blk_lt h1)).trans h1, h2, h3, Kd.C_below h4 hb, Kd.C_below h5 hb⟩
theorem DQ.lt (h : DQ P g w D) : g < w.heap.size := by obtain ⟨_, _, _, h, _⟩ := h; exact blk_lt h
theorem DQ.mono (h : DQ P g w D) (hp : ∀ k, P k → S k) : DQ S g w D := by
  obtain ⟨h1, v1, v2, h2, h3, h4, h5, h6⟩ := h
  exact ⟨hp _ h1, v1, v2, h2, fun k hk => hp _ (h3 k hk), fun k hk => hp _ (h4 k hk), h5, h6⟩
theorem DQ.moved (h : DQ P g w D) (hm : ∀ k, P k → k < w.heap.size → w'.heap[k]? = w.heap[k]?) : DQ P g w' D := by
  obtain ⟨h1, v1, v2, h2, h3, h4, h5, h6⟩ := h
  exact ⟨h1, v1, v2, (hm g h1 (blk_lt h2)).trans h2, h3, h4, h5.moved (fun k hk => hm k (h3 k hk) (h5.lt k hk)), h6.moved (fun k hk => hm k (h4 k hk) (h6.lt k hk))⟩
theorem DQ.below (h : DQ P g w D) (hb : Below w.heap.size w w') : DQ P g w' D := h.moved (fun k _ hk => hb.block k hk)
theorem st_reads {A : Option Addr} {n c : Nat} {l : List ByteArray} (h : TRow st_enc 1 9 w (.slice A n c) l) : Kd.C Kd.string w A l.length l := TRow.reads (d := Kd.string) (fun _ _ => rfl) (fun _ => rfl) rfl h
theorem wt_reads {A : Option Addr} {n c : Nat} {l : List S60} (h : TRow wt_enc 2 60 w (.slice A n c) l) : Kd.C k60 w A l.length l := TRow.reads (d := k60) (fun w x => k60_mk w x) (fun _ => rfl) rfl h
theorem DQ.toR (h : DQ P g w D) : DR w g D := by
  obtain ⟨h1, v1, v2, h2, h3, h4, h5, h6⟩ := h
  obtain ⟨A1, c1, rfl, hl1⟩ := h5.slice
  obtain ⟨A2, c2, rfl, hl2⟩ := h6.slice
  exact ⟨A1, c1, A2, c2, h2, hl1, hl2, st_reads h5, wt_reads h6⟩
theorem DQ.all (h : DQ P g w D) : ∃ A1 c1 A2 c2, w.heap[g]? = some (.cells #[.slice A1 D.b.length c1, .slice A2 D.w.length c2, .int .i64 D.f, .bool D.d] 56 (0, 0)) ∧ TRow st_enc 1 9 w (.slice A1 D.b.length c1) D.b ∧ TRow wt_enc 2 60 w (.slice A2 D.w.length c2) D.w ∧ (∀ k, (Value.slice A1 D.b.length c1).ownBlock = some k → P k) ∧ (∀ k, (Value.slice A2 D.w.length c2).ownBlock = some k → P k) := by
  obtain ⟨h1, v1, v2, h2, h3, h4, h5, h6⟩ := h
  obtain ⟨A1, c1, rfl, hl1⟩ := h5.slice
  obtain ⟨A2, c2, rfl, hl2⟩ := h6.slice
  exact ⟨A1, c1, A2, c2, h2, h5, h6, h3, h4⟩
theorem blk_cells4 {v0 v1 v2 v3 : Value} {t : TypeId} (h : w.heap[g]? = some (.cells #[v0, v1, v2, v3] t (0, 0))) : w.cell? ⟨g, 0, none⟩ = some v0 ∧ w.cell? ⟨g, 1, none⟩ = some v1 ∧ w.cell? ⟨g, 2, none⟩ = some v2 ∧ w.cell? ⟨g, 3, none⟩ = some v3 := by
  have a := blk_cell h 0
  have b := blk_cell h 1
  have c := blk_cell h 2
  have d := blk_cell h 3
  simp only [List.getElem?_toArray, List.getElem?_cons_zero, List.getElem?_cons_succ] at a b c d
  exact ⟨a, b, c, d⟩
end
def dv_okw (n : Nat) (x : S60) : Bool := decide (0 ≤ x.f0) && (decide (x.f0 < (n : Int)) && x.f1.size == 64)
def dv_ok (D : Dv) : Bool := decide (D.b.length ≤ 4096) && (decide (D.w.length ≤ 4096) && (decide (-1 ≤ D.f) && (D.b.all (fun s => s.size == 64) && D.w.all (dv_okw D.b.length))))
def dv_check (D : Dv) : Int := if dv_ok D = true then 0 else 2
end Go.Proofs.YthlnjbaichkipaaDoor.XR
