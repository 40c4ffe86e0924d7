/- The law FnExactCellsOfForm, as the program tells it: true at every text. -/
import Derived.Test.YtfkcgpiemgcceaaDoorPform
import Derived.Test.YtfkcgpiemgcceaaDoorQCellsOfForm
namespace Go.Proofs.YtfkcgpiemgcceaaDoor.Q
open Go.RowKit Go.Proofs.YtfkcgpiemgcceaaDoorW.PrintWords Go.Proofs.YtfkcgpiemgcceaaDoorW.PrintLast Go.Proofs.YtfkcgpiemgcceaaDoorW.PrintMore
open Classical
theorem specCells_ev (s : ByteArray) : Ev (fun k => spec_CellsOfForm.f k s) (cellsR s) := by
  refine Ev.bind (f := fun k bt101 => (if bt101.2.2.2 = true then ((spec_tyBalls.f k bt101.1 bt101.2.1 bt101.2.2.1).bind fun t108 => (some (t108, true))) else (some (([] : List Int), false)))) (buRead_ev s) ?_
  unfold cellsR formOf
  rcases ht : trayOf s with _ | t
  · exact Ev.const rfl
  · obtain ⟨w, h, cs⟩ := t
    have hl := form_len ht
    simp only [Option.bind_some]
    by_cases hf : formOK w.toNat h.toNat cs
    · rw [decide_eq_true hf, if_pos hf]
      exact Ev.congr (Ev.bind (f := fun _ t108 => some (t108, true)) (tyBalls_ev cs hl w h) (Ev.const rfl)) fun k => if_pos rfl
    · rw [decide_eq_false hf, if_neg hf]
      exact Ev.congr (Ev.const (o := some (([] : List Int), false)) rfl) fun k => if_neg (by decide)
theorem implCells_ev (s : ByteArray) (hs : s.size ≤ 1048576) : Ev (fun k => impl_CellsOfForm.f k s) (cellsR s) := by
  refine Ev.bind (f := fun k t101 => (if t101 = true then ((impl_read.f s).bind fun bt102 => ((impl_tray_indices_isBall.f k bt102.1 bt102.2.1 bt102.2.2 ()).bind fun t107 => (some (t107, true)))) else (some (([] : List Int), false)))) (isForm_ev s hs) ?_
  unfold cellsR
  rcases ht : formOf s with _ | t
  · exact Ev.congr (Ev.const (o := some (([] : List Int), false)) rfl) fun k => if_neg (by decide)
  · have h1 := formOf_some ht
    have hread : impl_read.f s = trayOf s := ((trayOf_row s).resolve_left (by rw [h1.1]; exact fun e => nomatch e)).2
    rw [h1.1] at hread
    refine Ev.congr (Ev.bind (f := fun _ t107 => some (t107, true)) (indices_ev t.2.2 (form_len h1.1) t.1 t.2.1) (Ev.const rfl)) fun k => ?_
    show (if true = true then _ else _) = _
    rw [if_pos rfl, hread, Option.bind_some]
theorem law_ev (s : ByteArray) : Ev (fun k => laws_FnExactCellsOfForm.f k s) true := by
  by_cases hs : s.size ≤ 1048576
  · have hl := cellsR_len s
    have hsp := specCells_ev s
    have him := implCells_ev s hs
    obtain ⟨l, hl1, hl2, hmk⟩ := mark_ev (cellsR s).1 1 (by omega) (by omega) (by omega)
    have hhd := held_ev l 1 (by omega) (by omega) (by omega) (by rw [hl1]; exact hl2)
    have heq := eqInts_ev (cellsR s).1 (by omega)
    have e0 : (1 : Int) + l.length = 1 + (cellsR s).1.length := by rw [hl1]
    rw [e0] at hhd
    have c1 : ¬ (1 : Int) + (cellsR s).1.length < 0 := by omega
    have hj1 : Ev (fun k => laws_FnExactCellsOfForm.j1 k l (1 + (cellsR s).1.length) false) true := by
      refine Ev.step (Ev.bind (f := fun _ t118 => (if t118 < 0 then (some false) else (if t118 = (1 : Int) + (cellsR s).1.length then (some true) else (some false)))) hhd (Ev.const ?_)) fun k => ?_
      · rw [if_neg c1, if_pos rfl]
      · rw [laws_FnExactCellsOfForm.j1, if_neg (by decide)]
    have hj0 : Ev (fun k => laws_FnExactCellsOfForm.j0 k s (cellsR s).1 (cellsR s).2 (cellsR s).1 false) true := by
      refine Ev.step (Ev.bind (f := fun k bt110 => ((laws_heldIntS.f k bt110.2 1).bind fun t112 => (if t112 < 0 then (some false) else (if t112 = bt110.1 then ((impl_CellsOfForm.f k s).bind fun bt113 => ((laws_eqIntS.f k bt113.1 (cellsR s).1).bind fun t117 => (if t117 = true then (laws_FnExactCellsOfForm.j1 k bt110.2 bt110.1 (bt113.2 != (cellsR s).2)) else (laws_FnExactCellsOfForm.j1 k bt110.2 bt110.1 true)))) else (some false))))) hmk ?_) fun k => ?_
      · refine Ev.bind (f := fun k t112 => (if t112 < 0 then (some false) else (if t112 = (1 : Int) + (cellsR s).1.length then ((impl_CellsOfForm.f k s).bind fun bt113 => ((laws_eqIntS.f k bt113.1 (cellsR s).1).bind fun t117 => (if t117 = true then (laws_FnExactCellsOfForm.j1 k l (1 + (cellsR s).1.length) (bt113.2 != (cellsR s).2)) else (laws_FnExactCellsOfForm.j1 k l (1 + (cellsR s).1.length) true)))) else (some false)))) hhd ?_
        refine Ev.congr (Ev.bind (f := fun k bt113 => ((laws_eqIntS.f k bt113.1 (cellsR s).1).bind fun t117 => (if t117 = true then (laws_FnExactCellsOfForm.j1 k l (1 + (cellsR s).1.length) (bt113.2 != (cellsR s).2)) else (laws_FnExactCellsOfForm.j1 k l (1 + (cellsR s).1.length) true)))) him ?_) fun k => ?_
        · refine Ev.bind (f := fun k t117 => (if t117 = true then (laws_FnExactCellsOfForm.j1 k l (1 + (cellsR s).1.length) ((cellsR s).2 != (cellsR s).2)) else (laws_FnExactCellsOfForm.j1 k l (1 + (cellsR s).1.length) true))) heq ?_
          refine Ev.congr hj1 fun k => ?_
          rw [if_pos rfl, bne_self_eq_false]
        · rw [if_neg c1, if_pos rfl]
      · rw [laws_FnExactCellsOfForm.j0, if_neg (by decide)]
    refine Ev.congr (Ev.bind (f := fun k (bt101 : List Int × Bool) => ((impl_CellsOfForm.f k s).bind fun bt105 => ((laws_eqIntS.f k bt105.1 bt101.1).bind fun t109 => (if t109 = true then (laws_FnExactCellsOfForm.j0 k s bt101.1 bt101.2 bt105.1 (bt105.2 != bt101.2)) else (laws_FnExactCellsOfForm.j0 k s bt101.1 bt101.2 bt105.1 true))))) hsp ?_) fun k => if_neg (by omega)
    refine Ev.bind (f := fun k bt105 => ((laws_eqIntS.f k bt105.1 (cellsR s).1).bind fun t109 => (if t109 = true then (laws_FnExactCellsOfForm.j0 k s (cellsR s).1 (cellsR s).2 bt105.1 (bt105.2 != (cellsR s).2)) else (laws_FnExactCellsOfForm.j0 k s (cellsR s).1 (cellsR s).2 bt105.1 true)))) him ?_
    refine Ev.bind (f := fun k t109 => (if t109 = true then (laws_FnExactCellsOfForm.j0 k s (cellsR s).1 (cellsR s).2 (cellsR s).1 ((cellsR s).2 != (cellsR s).2)) else (laws_FnExactCellsOfForm.j0 k s (cellsR s).1 (cellsR s).2 (cellsR s).1 true))) heq ?_
    refine Ev.congr hj0 fun k => ?_
    rw [if_pos rfl, bne_self_eq_false]
  · exact Ev.congr (Ev.const (o := some true) rfl) fun k => if_pos (by omega)
end Go.Proofs.YtfkcgpiemgcceaaDoor.Q
