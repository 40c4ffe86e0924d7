/- A form and a cell of it: both sides take the same ones. -/
import Derived.Test.YtbplbbialcbceaaDoorPnum
import Derived.Test.YtbplbbialcbceaaDoorQg
namespace Go.Proofs.YtbplbbialcbceaaDoor.Q
set_option linter.unusedSectionVars false
open Go.RowKit Go.Proofs.YtbplbbialcbceaaDoorW.PrintWords Go.Proofs.YtbplbbialcbceaaDoorW.PrintLast Go.Proofs.YtbplbbialcbceaaDoorW.PrintMore
theorem tray_parts {s : ByteArray} {t : Int × Int × List Int} (ht : trayOf s = some t) : ∃ (w h : Nat) (cs : List Int), t = ((w : Int), (h : Int), cs) ∧ 1 ≤ w ∧ w ≤ 7 ∧ 1 ≤ h ∧ h ≤ 7 ∧ w * h ≤ 36 ∧ cs.length = w * h := by
  obtain ⟨w, h, e, h1, h2, h3, h4, h5, h6⟩ := trayOf_some ht
  exact ⟨w, h, _, e, h1, h2, h3, h4, h5, h6⟩
theorem form_parts {s : ByteArray} {t : Int × Int × List Int} (ht : formOf s = some t) : ∃ (w h : Nat) (cs : List Int), t = ((w : Int), (h : Int), cs) ∧ 1 ≤ w ∧ w ≤ 7 ∧ 1 ≤ h ∧ h ≤ 7 ∧ w * h ≤ 36 ∧ cs.length = w * h ∧ formOK w h cs ∧ trayOf s = some ((w : Int), (h : Int), cs) := by
  obtain ⟨h1, h2⟩ := formOf_some ht
  obtain ⟨w, h, cs, rfl, e⟩ := tray_parts h1
  exact ⟨w, h, cs, rfl, e.1, e.2.1, e.2.2.1, e.2.2.2.1, e.2.2.2.2.1, e.2.2.2.2.2, by simpa using h2, h1⟩
theorem tray_read {s : ByteArray} {t : Int × Int × List Int} (ht : trayOf s = some t) : impl_read.f s = some t := by
  rw [← ht]
  exact ((trayOf_row s).resolve_left (by rw [ht]; exact fun e => nomatch e)).2
theorem isFormCell_ev (s : ByteArray) (hs : s.size ≤ 1048576) (a : Int) : Ev (fun k => impl_isFormCell.f k s a) (match formOf s with | none => false | some (_, _, cs) => decide (inCells cs a)) := by
  refine Ev.bind (f := fun k (t101 : Bool) => (if t101 = true then ((impl_isNumber.f k s (([a] : List Int))).bind fun t105 => (some t105)) else (some false))) (isForm_ev s hs) ?_
  rcases hf : formOf s with _ | t
  · exact Ev.congr (Ev.const (o := some false) rfl) fun k => if_neg (by decide)
  · obtain ⟨w, h, cs, rfl, _, _, _, _, _, _, _, ht⟩ := form_parts hf
    have h1 := isNumber_ev s hs [a] (by simp)
    rw [ht] at h1
    have e4 : allCells cs [a] = decide (inCells cs a) := by simp [allCells]
    show Ev _ (decide (inCells cs a))
    rw [← e4]
    refine Ev.congr (Ev.bind (f := fun _ (t105 : Bool) => some t105) h1 (Ev.const rfl)) fun k => if_pos rfl
open Classical in
theorem buCell_ev (s : ByteArray) (a : Int) : ∃ g : Int × Int × List Int, Ev (fun k => spec_buCell.f k s a) (g.1, g.2.1, g.2.2, (match formOf s with | none => false | some (_, _, cs) => decide (inCells cs a))) ∧ (∀ t, formOf s = some t → g = t) := by
  have h0 := buRead_ev s
  rcases ht : trayOf s with _ | ⟨w, h, cs⟩
  · have hf : formOf s = none := by unfold formOf; rw [ht]; rfl
    rw [ht] at h0
    refine ⟨(0, 0, []), Ev.bind (f := fun _ (bt102 : Int × Int × List Int × Bool) => (if bt102.2.2.2 = true then ((spec_l1In.f a 0 (wrap64 ((bt102.2.2.1.length : Int) - 1))).bind fun t109 => (some (bt102.1, bt102.2.1, bt102.2.2.1, t109))) else (some (bt102.1, bt102.2.1, bt102.2.2.1, false)))) h0 ?_, fun t e => by rw [hf] at e; cases e⟩
    rw [hf]
    exact Ev.const rfl
  · rw [ht] at h0
    have hl : cs.length ≤ 36 := form_len ht
    have hwl : wrap64 ((cs.length : Int) - 1) = (cs.length : Int) - 1 := w64 (by omega) (by omega)
    have hf : formOf s = if formOK w.toNat h.toNat cs then some (w, h, cs) else none := by
      unfold formOf
      rw [ht]
      rfl
    refine ⟨(w, h, cs), Ev.bind (f := fun _ (bt102 : Int × Int × List Int × Bool) => (if bt102.2.2.2 = true then ((spec_l1In.f a 0 (wrap64 ((bt102.2.2.1.length : Int) - 1))).bind fun t109 => (some (bt102.1, bt102.2.1, bt102.2.2.1, t109))) else (some (bt102.1, bt102.2.1, bt102.2.2.1, false)))) h0 ?_, fun t e => by
      rw [hf] at e
      split at e
      · exact (Option.some.inj e)
      · cases e⟩
    by_cases hk : formOK w.toNat h.toNat cs
    · rw [hf, if_pos hk]
      refine Ev.congr (Ev.const (o := some (w, h, cs, decide (inCells cs a))) rfl) fun k => ?_
      show (if decide (formOK w.toNat h.toNat cs) = true then (spec_l1In.f a 0 (wrap64 ((cs.length : Int) - 1))).bind _ else _) = _
      rw [if_pos (decide_eq_true hk), hwl, l1In_eq, Option.bind_some, inCells_eq]
    · rw [hf, if_neg hk]
      refine Ev.congr (Ev.const (o := some (w, h, cs, false)) rfl) fun k => ?_
      show (if decide (formOK w.toNat h.toNat cs) = true then _ else _) = _
      rw [if_neg (by simpa using hk)]
theorem form_open {w h : Nat} {cs : List Int} (hk : formOK w h cs) : ∀ c ∈ cs, c = 46 ∨ c = 111 := hk.1
end Go.Proofs.YtbplbbialcbceaaDoor.Q
