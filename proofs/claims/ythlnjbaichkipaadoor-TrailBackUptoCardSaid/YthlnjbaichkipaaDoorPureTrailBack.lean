/- For every device, region, record and block within the bound: what is appended behind what is used is read behind all that was read, and other blocks have what they had. -/
import Derived.Test.YthlnjbaichkipaaDoorXR11
import Derived.Test.YthlnjbaichkipaaDoorUTrailBack
import Derived.Test.YthlnjbaichkipaaDoorQTrlB
import Derived.Test.YthlnjbaichkipaaDoorXR14
set_option linter.unusedVariables false
set_option linter.unusedSimpArgs false
namespace Go.Proofs.YthlnjbaichkipaaDoor.XR
open Go.RowKit Go.Proofs.YthlnjbaichkipaaDoorW.PrintWords Go.Proofs.YthlnjbaichkipaaDoorW.PrintLast Go.Proofs.YthlnjbaichkipaaDoorW.PrintMore Go.Proofs.YthlnjbaichkipaaDoor.Wire Go.Proofs.YthlnjbaichkipaaDoor.Sum
set_option maxRecDepth 100000 in
theorem trail_lives : bellmanlaw04_lives.f = some true := by decide +kernel
theorem same_loop (l : List ByteArray) (hl : l.length ≤ 9000000000000000000) : ∀ (d i : Nat), i + d = l.length → Ev (fun k => bellmanref01_SameTexts.l0 k l l (l.length : Int) (i : Int)) true
  | 0, i, h => Ev.step (f := fun _ => some true) (fun k => by rw [bellmanref01_SameTexts.l0, if_neg (by omega)]) (Ev.now _)
  | d + 1, i, h => Ev.step (f := fun k => bellmanref01_SameTexts.l0 k l l (l.length : Int) ((i + 1 : Nat) : Int)) (fun k => by rw [bellmanref01_SameTexts.l0, if_pos (by omega), if_pos (by omega), if_pos (by omega), if_pos (by omega), if_pos rfl, dv_wrap i (by omega)]) (same_loop l hl d (i + 1) (by omega))
theorem same_refl {l : List ByteArray} (hl : l.length ≤ 9000000000000000000) : Ev (fun k => bellmanref01_SameTexts.f k l l) true := by
  unfold bellmanref01_SameTexts.f
  simp only [if_true]
  exact same_loop l hl l.length 0 (by omega)
theorem bRead_f {D : Dv} (h : dv_fit D) (x : Int) : block_Read.f D.b D.w D.f D.d x = some (dv_Read D x) := if_pos h
theorem back_j0 {D E : Dv} {f m other : Int} {U n : Nat} (hfD : dv_fit D) (hfE : dv_fit E) (hD : tr_open D f m = 0) (hE : tr_open E f m = 0) (hlen : E.b.length = D.b.length) (hn : ((U + n : Nat) : Int) ≤ m)
    (hh : ∀ p, 0 ≤ p → ¬ (f + (U : Int) ≤ p ∧ p < f + ((U + n : Nat) : Int)) → dv_has E p = dv_has D p) : Ev (fun k => bellmanlaw04_TrailBack.j0 k f other (U : Int) ((U + n : Nat) : Int) false D.b D.w D.f D.d E.b E.w E.f E.d) true := by
  obtain ⟨ho, hin⟩ := tr_open_zero hD
  obtain ⟨hoE, _⟩ := tr_open_zero hE
  have hl := tr_ok_len (dv_open_zero ho)
  obtain ⟨a1, a2, a3, a4⟩ := hin
  have w1 : wrap64 (f + (U : Int)) = f + (U : Int) := by unfold wrap64; omega
  have w2 : wrap64 (f + ((U + n : Nat) : Int)) = f + ((U + n : Nat) : Int) := by unfold wrap64; omega
  have hlast : ¬ (f + (U : Int) ≤ other ∧ other < f + ((U + n : Nat) : Int)) → Ev (fun k => bellmanlaw04_TrailBack.j1 k other false D.b D.w D.f D.d E.b E.w E.f E.d) true := by
    intro hno
    have he : dv_Read E other = dv_Read D other := by
      unfold dv_Read
      rw [if_pos ho, if_pos hoE]
      unfold dv_read
      have ht : dv_there E other = dv_there D other := by unfold dv_there; rw [hlen]
      rw [ht]
      by_cases c : dv_there D other = true
      · rw [if_pos c, if_pos c, hh other (by unfold dv_there at c; simp only [Bool.and_eq_true, decide_eq_true_eq] at c; exact c.1) hno]
      · rw [if_neg c, if_neg c]
    refine Ev.step (f := fun _ => some true) (fun k => ?_) (Ev.now _)
    rw [bellmanlaw04_TrailBack.j1, if_neg (by decide), bRead_f hfD, bRead_f hfE, he]
    simp
  by_cases c1 : other ≥ f + (U : Int)
  · refine Ev.step (f := fun k => bellmanlaw04_TrailBack.j1 k other (decide (other < f + ((U + n : Nat) : Int))) D.b D.w D.f D.d E.b E.w E.f E.d) (fun k => by rw [bellmanlaw04_TrailBack.j0, if_neg (by decide), w1, w2, if_pos c1]) ?_
    by_cases c2 : other < f + ((U + n : Nat) : Int)
    · rw [decide_eq_true c2]
      exact Ev.step (f := fun _ => some true) (fun k => by rw [bellmanlaw04_TrailBack.j1, if_pos rfl]) (Ev.now _)
    · rw [decide_eq_false c2]
      exact hlast (fun h => c2 h.2)
  · refine Ev.step (f := fun k => bellmanlaw04_TrailBack.j1 k other false D.b D.w D.f D.d E.b E.w E.f E.d) (fun k => by rw [bellmanlaw04_TrailBack.j0, if_neg (by decide), w1, w2, if_neg c1]) (hlast (fun h => c1 h.1))
theorem pure_TrailBack : bellmanlaw04_TrailBack.PureU := by
  intro a f m rec other hw hf hm ho hb
  obtain ⟨b, w, fu, d⟩ := a
  simp only at hw hb ⊢
  have hfit : dv_fit ⟨b, w, fu, d⟩ := fit_of (by omega) (by omega) hw.2.2.1
  obtain ⟨s, rfl⟩ : ∃ s, rec = B s := ⟨rec.data.toList, (B_data rec).symm⟩
  refine Ev.rounds ?_
  unfold bellmanlaw04_TrailBack.f
  rw [trail_lives]
  simp only [Option.bind_some, if_true]
  have h1 : trail_Read.f b w fu d f m = tr_Read ⟨b, w, fu, d⟩ f m := Read_f_eq ⟨b, w, fu, d⟩ hfit f m
  rw [h1]
  by_cases c : tr_open ⟨b, w, fu, d⟩ f m = 0
  rotate_left
  · have h2 : tr_Read ⟨b, w, fu, d⟩ f m = some ([], 0, tr_open ⟨b, w, fu, d⟩ f m) := by unfold tr_Read; rw [if_neg c]
    rw [h2]
    simp only [Option.bind_some, if_neg c]
    exact Ev.now _
  · rw [Read_eq2 c]
    simp only [Option.bind_some, if_true]
    have hin := (tr_open_zero c).2
    have hm0 := hin.1
    have hml : m ≤ 4096 := by
      have := tr_ok_len (dv_open_zero (tr_open_zero c).1)
      have := hin.2.2.2
      have := hin.2.1
      omega
    have hU := Trl.recsF_len (m.toNat + 1) (blkL ⟨b, w, fu, d⟩ f m.toNat 0)
    rw [blkL_len] at hU
    have hra := @read_app ⟨b, w, fu, d⟩
    generalize hP : Trl.recsF (m.toNat + 1) (blkL ⟨b, w, fu, d⟩ f m.toNat 0) = P at *
    obtain ⟨L, U⟩ := P
    simp only at hU ⊢
    rcases hA : tr_Append ⟨b, w, fu, d⟩ f m (U : Int) (if s.length ≤ 32768 then (Trl.blksF s).map B else []) (if s.length ≤ 32768 then 0 else 12) with ⟨E, n, why⟩
    have h2 : trail_Append.f b w fu d f m (U : Int) (B s) = some (E.b, E.w, E.f, E.d, n, why) := by
      have := Append_f_eq ⟨b, w, fu, d⟩ hfit f m (U : Int) s
      rw [hA] at this
      exact this
    rw [h2]
    simp only [Option.bind_some]
    by_cases cw : why = 0
    · obtain ⟨hs, E', he, q1, q2, q3, q4, q5, q6⟩ := append_yes (s := s) (u := (U : Int)) hfit c (by omega) (by rw [hA]; exact cw)
      rw [hA] at he
      simp only [Prod.mk.injEq] at he
      obtain ⟨rfl, rfl, rfl⟩ := he
      simp only [if_true]
      have hE : tr_open E f m = 0 := open_yes q1 q2 (by rw [q3]; exact hin)
      obtain ⟨more, k2, hre⟩ := hra (E := E) (f := f) (m := m) (s := s) hs c hE (by rw [hP]; exact q5) (by rw [hP]; exact q6)
      rw [hP] at hre
      have h3 : trail_Read.f E.b E.w E.f E.d f m = some ((L ++ s :: more).map B, ((U + ((Trl.blksF s).length + k2) : Nat) : Int), 0) := (Read_f_eq E q4 f m).trans hre
      rw [h3]
      have hlen : ((L ++ s :: more).map B).length = L.length + (more.length + 1) := by simp
      have hLl : (L.map B).length = L.length := by simp
      have hbound : L.length ≤ 9000000000000000000 := by
        have h7 := congrArg (fun p => p.1.length) hP
        have : ∀ (n : Nat) (l : List (List UInt8)), (Trl.recsF n l).1.length ≤ n := by
          intro n
          induction n with
          | zero => intro l; simp [Trl.recsF]
          | succ n ih =>
            intro l
            rw [Trl.recsF]
            split
            · simp
            · rename_i p _
              have := ih (l.drop p.2)
              simp only [List.length_cons]
              omega
        have h8 := this (m.toNat + 1) (blkL ⟨b, w, fu, d⟩ f m.toNat 0)
        simp only at h7
        omega
      simp only [Option.bind_some, if_true, hlen, hLl]
      simp only [if_neg (show ¬ ((L.length + (more.length + 1) : Nat) : Int) ≤ (L.length : Int) by omega), if_neg (show ¬ ((U + ((Trl.blksF s).length + k2) : Nat) : Int) < (U : Int) + ((Trl.blksF s).length : Int) by omega), if_pos (show (0 : Int) ≤ (L.length : Int) by omega), if_pos (show (L.length : Int) ≤ ((L.length + (more.length + 1) : Nat) : Int) by omega), if_pos (show (L.length : Int) < ((L.length + (more.length + 1) : Nat) : Int) by omega)]
      have ht : ((L ++ s :: more).map B).take ((L.length : Int)).toNat = L.map B := by
        rw [Int.toNat_natCast, List.map_append, ← hLl, List.take_left]
      rw [ht]
      refine Ev.bind (same_refl (l := L.map B) (by rw [hLl]; exact hbound)) (f := fun k t266 => _) ?_
      have hrd : rdOf ByteArray.empty ((L ++ s :: more).map B) (L.length : Int) = B s := by
        unfold rdOf
        rw [Int.toNat_natCast, List.getD_eq_getElem?_getD, List.getElem?_map, List.getElem?_append_right (Nat.le_refl _), Nat.sub_self]
        rfl
      simp only [if_true, hrd, bne_self_eq_false]
      have hj := back_j0 (D := ⟨b, w, fu, d⟩) (E := E) (f := f) (m := m) (other := other) (U := U) (n := (Trl.blksF s).length) hfit q4 c hE q3 (by omega) (fun p hp hno => by
        rw [q6 p hp, if_neg (by rw [List.length_map]; omega)])
      rw [show ((U + (Trl.blksF s).length : Nat) : Int) = (U : Int) + ((Trl.blksF s).length : Int) by omega] at hj
      exact hj
    · have hno := append_no (D := ⟨b, w, fu, d⟩) (f := f) (m := m) (u := (U : Int)) (l := (if s.length ≤ 32768 then (Trl.blksF s).map B else [])) (why := (if s.length ≤ 32768 then 0 else 12)) (by rw [hA]; exact cw)
      rw [hA] at hno
      simp only at hno
      simp only [if_neg cw, hno]
      exact Ev.now _
end Go.Proofs.YthlnjbaichkipaaDoor.XR
namespace Go.Proofs.YthlnjbaichkipaaDoor.Pure
theorem TrailBack : XR.bellmanlaw04_TrailBack.PureU := XR.pure_TrailBack
end Go.Proofs.YthlnjbaichkipaaDoor.Pure
