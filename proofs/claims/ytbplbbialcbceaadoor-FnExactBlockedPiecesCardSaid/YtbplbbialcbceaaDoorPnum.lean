/- Numbers of cells: isNumber, and slices.Contains over whole numbers. -/
import Derived.Test.YtbplbbialcbceaaDoorPform
import Derived.Test.YtbplbbialcbceaaDoorQk
namespace Go.Proofs.YtbplbbialcbceaaDoor.Q
set_option linter.unusedSectionVars false
open Go.RowKit Go.Proofs.YtbplbbialcbceaaDoorW.PrintWords Go.Proofs.YtbplbbialcbceaaDoorW.PrintLast Go.Proofs.YtbplbbialcbceaaDoorW.PrintMore
def inCells (cs : List Int) (a : Int) : Prop := 0 ≤ a ∧ a < (cs.length : Int)
instance (cs : List Int) (a : Int) : Decidable (inCells cs a) := inferInstanceAs (Decidable (_ ∧ _))
theorem inCells_eq (cs : List Int) (a : Int) : decide (0 ≤ a ∧ a ≤ (cs.length : Int) - 1) = decide (inCells cs a) := decide_eq_decide.2 (by unfold inCells; omega)
def allCells (cs : List Int) (l : List Int) : Bool := l.all fun a => decide (inCells cs a)
theorem within_all (cs : List Int) (l : List Int) (hl : l.length ≤ 1000000) : impl_areWithin.f l 0 ((cs.length : Int) - 1) = some (allCells cs l) := by
  unfold impl_areWithin.f allCells
  rw [if_pos hl]
  congr 1
  induction l with
  | nil => rfl
  | cons a l ih =>
    rw [List.any_cons, List.all_cons, Bool.not_or, ih (by simp at hl; omega), Bool.not_not, inCells_eq]
theorem isNumber_ev (s : ByteArray) (hs : s.size ≤ 1048576) (l : List Int) (hl : l.length ≤ 1000000) : Ev (fun k => impl_isNumber.f k s l) (match trayOf s with | none => false | some (_, _, cs) => allCells cs l) := by
  refine Ev.bind (f := fun _ (t101 : Bool) => (if t101 = true then ((impl_read.f s).bind fun bt102 => ((impl_areWithin.f l 0 (wrap64 ((bt102.2.2.length : Int) - 1))).bind fun t107 => (some t107))) else (some false))) (isTray_ev s hs) (Ev.const ?_)
  rcases ht : trayOf s with _ | ⟨w, h, cs⟩
  · rfl
  · have hread : impl_read.f s = trayOf s := ((trayOf_row s).resolve_left (by rw [ht]; exact fun e => nomatch e)).2
    have h1 : cs.length ≤ 36 := form_len (t := (w, h, cs)) ht
    have hwl : wrap64 ((cs.length : Int) - 1) = (cs.length : Int) - 1 := w64 (by omega) (by omega)
    show (if true = true then _ else _) = _
    rw [if_pos rfl, hread, ht]
    show (impl_areWithin.f l 0 (wrap64 ((cs.length : Int) - 1))).bind _ = _
    rw [hwl, within_all cs l hl]
    rfl
theorem index_ev (l : List Int) (x : Int) (hl : l.length ≤ 1000000) : ∀ (m i : Nat), i + m = l.length → ∃ r : Int, Ev (fun k => slices_Index_int_int.l0 k l x l.length i) r ∧ (0 ≤ r ↔ x ∈ l.drop i)
  | 0, i, hi => by
    refine ⟨-1, Ev.step (Ev.const (o := some (-1)) rfl) fun k => ?_, ?_⟩
    · rw [slices_Index_int_int.l0, if_neg (by omega)]
    · rw [List.drop_eq_nil_of_le (by omega)]
      simp
  | m + 1, i, hi => by
    obtain ⟨r, h1, h2⟩ := index_ev l x hl m (i + 1) (by omega)
    have hlt : i < l.length := by omega
    have hwi : wrap64 ((i : Int) + 1) = ((i + 1 : Nat) : Int) := by rw [w64 (by omega) (by omega)]; omega
    have hrd : rd l (i : Int) = l[i] := rd_nat l i hlt
    rw [List.drop_eq_getElem_cons hlt]
    by_cases he : x = l[i]
    · refine ⟨i, Ev.step (Ev.const (o := some (i : Int)) rfl) fun k => ?_, ⟨fun _ => he ▸ List.mem_cons_self, fun _ => by omega⟩⟩
      rw [slices_Index_int_int.l0, if_pos (by omega), if_pos (by omega), if_pos (by omega), hrd, if_pos he]
    · refine ⟨r, Ev.step h1 fun k => ?_, h2.trans ⟨fun h3 => List.mem_cons_of_mem _ h3, fun h3 => (List.mem_cons.1 h3).resolve_left he⟩⟩
      rw [slices_Index_int_int.l0, if_pos (by omega), if_pos (by omega), if_pos (by omega), hrd, if_neg he, hwi]
theorem contains_ev (l : List Int) (x : Int) (hl : l.length ≤ 1000000) : Ev (fun k => slices_Contains_int_int.f k l x) (decide (x ∈ l)) := by
  obtain ⟨r, h1, h2⟩ := index_ev l x hl l.length 0 (by omega)
  rw [List.drop_zero] at h2
  refine Ev.bind (f := fun _ t101 => (some (decide (t101 ≥ 0)))) h1 (Ev.const ?_)
  congr 1
  exact decide_eq_decide.2 h2
end Go.Proofs.YtbplbbialcbceaaDoor.Q
