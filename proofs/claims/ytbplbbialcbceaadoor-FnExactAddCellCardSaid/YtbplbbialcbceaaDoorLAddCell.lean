/- The law FnExactAddCell, as the program tells it: true at every text and number. -/
import Derived.Test.YtbplbbialcbceaaDoorPput
import Derived.Test.YtbplbbialcbceaaDoorQAddCell
namespace Go.Proofs.YtbplbbialcbceaaDoor.Q
set_option linter.unusedSectionVars false
open Go.RowKit Go.Proofs.YtbplbbialcbceaaDoorW.PrintWords Go.Proofs.YtbplbbialcbceaaDoorW.PrintLast Go.Proofs.YtbplbbialcbceaaDoorW.PrintMore
open Classical
noncomputable def AddCellR (s : ByteArray) (a : Int) : ByteArray × Bool := match formOf s with
  | none => (⟨#[]⟩, false)
  | some (w, h, cs) => if (inCells cs a ∧ wayB w.toNat h.toNat cs a = true) ∧ isB3 w.toNat h.toNat (cs.set a.toNat 111) then (tx (cs.set a.toNat 111) w.toNat h.toNat, true) else (⟨#[]⟩, false)
theorem specAddCell_ev (s : ByteArray) (a : Int) : Ev (fun k => spec_AddCell.f k s a) (AddCellR s a) := by
  obtain ⟨g, h1, h2⟩ := buCell_ev s a
  refine Ev.bind (f := fun k (bt101 : Int × Int × List Int × Bool) => (if bt101.2.2.2 = true then ((spec_buWay.f k bt101.1 bt101.2.1 bt101.2.2.1 a).bind fun t108 => (spec_AddCell.j0 k a (decide (t108 < 0)) bt101.1 bt101.2.1 bt101.2.2.1)) else (spec_AddCell.j0 k a true bt101.1 bt101.2.1 bt101.2.2.1))) h1 ?_
  have hno : ∀ x y z, Ev (fun k => spec_AddCell.j0 k a true x y z) ((⟨#[]⟩ : ByteArray), false) := fun x y z => Ev.step (Ev.const (o := some ((⟨#[]⟩ : ByteArray), false)) rfl) fun k => by rw [spec_AddCell.j0, if_pos rfl]
  unfold AddCellR
  rcases hf : formOf s with _ | u
  · exact Ev.congr (hno _ _ _) fun k => if_neg Bool.false_ne_true
  · obtain rfl := h2 u hf
    obtain ⟨w, h, cs, rfl, hw1, hw, hh1, hh, hs, hn, hk, ht⟩ := form_parts hf
    show Ev (fun k => if decide (inCells cs a) = true then ((spec_buWay.f k w h cs a).bind fun t108 => (spec_AddCell.j0 k a (decide (t108 < 0)) w h cs)) else (spec_AddCell.j0 k a true w h cs)) (if _ then _ else _)
    simp only [Int.toNat_natCast]
    have ho : ∀ c ∈ cs, c ≠ 35 := fun c hm e => by rcases form_open hk c hm with h | h <;> omega
    by_cases hc : inCells cs a
    · obtain ⟨r, hr, hr2⟩ := buWay_ev hw hh hs hn ho a hc
      refine Ev.congr (Ev.bind (f := fun k (t108 : Int) => spec_AddCell.j0 k a (decide (t108 < 0)) w h cs) hr ?_) fun k => if_pos (decide_eq_true hc)
      by_cases hway : wayB w h cs a = true
      · rw [decide_eq_false (Int.not_lt.2 (hr2.2 hway))]
        have hin := hc
        unfold inCells at hin
        have hn2 : (cs.set a.toNat 111).length = w * h := by rw [List.length_set]; exact hn
        have hb := buIs3_ev (cs := cs.set a.toNat 111) hw1 hw hh1 hh hs hn2
        have htx := tyText_ev (cs := cs.set a.toNat 111) hw1 hh1 hs hn2
        refine Ev.step (g' := fun k => (spec_buIs.f k w h (cs.set a.toNat 111)).bind fun t110 => (if t110 = true then ((spec_tyText.f k w h (cs.set a.toNat 111)).bind fun t111 => (some (t111, true))) else (some ((⟨#[]⟩ : ByteArray), false)))) ?_ fun k => by rw [spec_AddCell.j0, if_neg Bool.false_ne_true, if_pos hin.1, if_pos hin.2]; rfl
        refine Ev.bind (f := fun k (t110 : Bool) => (if t110 = true then ((spec_tyText.f k w h (cs.set a.toNat 111)).bind fun t111 => (some (t111, true))) else (some ((⟨#[]⟩ : ByteArray), false)))) hb ?_
        by_cases hb3 : isB3 w h (cs.set a.toNat 111)
        · rw [if_pos ⟨⟨hc, hway⟩, hb3⟩]
          exact Ev.congr (Ev.bind (f := fun _ t111 => some (t111, true)) htx (Ev.const rfl)) fun k => if_pos (decide_eq_true hb3)
        · rw [if_neg fun h => hb3 h.2]
          exact Ev.congr (Ev.const (o := some ((⟨#[]⟩ : ByteArray), false)) rfl) fun k => if_neg (by rw [decide_eq_true_eq]; exact hb3)
      · rw [if_neg fun h => hway h.1.2, decide_eq_true (Int.not_le.1 fun h => hway (hr2.1 h))]
        exact hno _ _ _
    · rw [if_neg fun h => hc h.1.1]
      exact Ev.congr (hno w h cs) fun k => if_neg (by simpa using hc)
theorem implAddCell_ev (s : ByteArray) (a : Int) (hs : s.size ≤ 1048576) : Ev (fun k => impl_AddCell.f k s a) (AddCellR s a) := by
  refine Ev.bind (f := fun k (t101 : Bool) => (if t101 = true then ((impl_read.f s).bind fun bt102 => ((impl_tray_added.f k bt102.1 bt102.2.1 bt102.2.2 a).bind fun t107 => (impl_AddCell.j0 k s a (t107.toList == ([] : List UInt8))))) else (impl_AddCell.j0 k s a true))) (isFormCell_ev s hs a) ?_
  have hno : Ev (fun k => impl_AddCell.j0 k s a true) ((⟨#[]⟩ : ByteArray), false) := Ev.step (Ev.const (o := some ((⟨#[]⟩ : ByteArray), false)) rfl) fun k => by rw [impl_AddCell.j0, if_pos rfl]
  unfold AddCellR
  rcases hf : formOf s with _ | u
  · exact Ev.congr hno fun k => if_neg Bool.false_ne_true
  · obtain ⟨w, h, cs, rfl, hw1, hw, hh1, hh, hs2, hn, hk, ht⟩ := form_parts hf
    have hread := tray_read ht
    show Ev (fun k => if decide (inCells cs a) = true then _ else _) (if _ then _ else _)
    simp only [Int.toNat_natCast]
    by_cases hc : inCells cs a
    · have hadd := added_ev hw hh hs2 hn a hc
      have hin := hc
      unfold inCells at hin
      refine Ev.congr (Ev.bind (f := fun k (t107 : ByteArray) => impl_AddCell.j0 k s a (t107.toList == ([] : List UInt8))) hadd ?_) fun k => by rw [if_pos (decide_eq_true hc), hread, Option.bind_some]
      by_cases hway : wayB w h cs a = true
      · rw [show ((strOfNums (addedR w h cs a)).toList == ([] : List UInt8)) = false from by
          rw [beq_eq_false_iff_ne]
          exact fun e => (wayB_added hin.1).1 hway ((added_empty _).1 e)]
        have ho2 := set_open (form_open hk) a.toNat 111 (Or.inr rfl)
        have hn2 : (cs.set a.toNat 111).length = w * h := by rw [List.length_set]; exact hn
        have hif := isForm_tx (cs := cs.set a.toNat 111) hw1 hw hh1 hh hs2 hn2 ho2
        have htv := text_val w h (cs.set a.toNat 111) hw1 hh1 hs2 hn2
        refine Ev.step (g' := fun k => (impl_IsForm.f k (tx (cs.set a.toNat 111) w h)).bind fun t119 => (if t119 = true then (some (tx (cs.set a.toNat 111) w h, true)) else (some ((⟨#[]⟩ : ByteArray), false)))) ?_ fun k => ?_
        · refine Ev.bind (f := fun _ (t119 : Bool) => (if t119 = true then (some (tx (cs.set a.toNat 111) w h, true)) else (some ((⟨#[]⟩ : ByteArray), false)))) hif (Ev.const ?_)
          by_cases hb3 : isB3 w h (cs.set a.toNat 111)
          · rw [if_pos (decide_eq_true hb3), if_pos (show (inCells cs a ∧ wayB w h cs a = true) ∧ isB3 w h (cs.set a.toNat 111) from ⟨⟨hc, hway⟩, hb3⟩)]
          · rw [if_neg (show ¬ decide (isB3 w h (cs.set a.toNat 111)) = true by rw [decide_eq_true_eq]; exact hb3), if_neg fun q : (inCells cs a ∧ wayB w h cs a = true) ∧ isB3 w h (cs.set a.toNat 111) => hb3 q.2]
        · rw [impl_AddCell.j0, if_neg Bool.false_ne_true, hread, Option.bind_some]
          show (impl_tray_with.f w h cs a 111).bind _ = _
          rw [with_eq w h cs a 111 hc (by rw [hn]; exact hs2), Option.bind_some]
          show (impl_tray_text.f w h (cs.set a.toNat 111)).bind _ = _
          rw [htv, Option.bind_some]
      · rw [if_neg fun h => hway h.1.2, show ((strOfNums (addedR w h cs a)).toList == ([] : List UInt8)) = true from by
          rw [beq_iff_eq]
          exact (added_empty _).2 (Classical.byContradiction fun h => hway ((wayB_added hin.1).2 h))]
        exact hno
    · rw [if_neg fun h => hc h.1.1]
      exact Ev.congr hno fun k => if_neg (by simpa using hc)
theorem lawAddCell_ev (s : ByteArray) (a : Int) : Ev (fun k => laws_FnExactAddCell.f k s a) true := by
  by_cases hs : s.size ≤ 1048576
  case neg =>
    refine Ev.congr (Ev.const (o := some true) rfl) fun k => ?_
    unfold laws_FnExactAddCell.f
    exact if_pos (by omega)
  have hsp := specAddCell_ev s a
  have him := implAddCell_ev s a hs
  refine Ev.congr (Ev.bind (f := fun k (bt101 : ByteArray × Bool) => ((impl_AddCell.f k s a).bind fun bt103 => (if bt103.1.toList = bt101.1.toList then (if (bt103.2 != bt101.2) = true then (some false) else (some true)) else (some false)))) hsp (Ev.bind (f := fun _ (bt103 : ByteArray × Bool) => (if bt103.1.toList = (AddCellR s a).1.toList then (if (bt103.2 != (AddCellR s a).2) = true then (some false) else (some true)) else (some false))) him (Ev.const ?_))) fun k => by unfold laws_FnExactAddCell.f; rw [if_neg (by omega)]
  rw [if_pos rfl, bne_self_eq_false, if_neg (by decide)]
end Go.Proofs.YtbplbbialcbceaaDoor.Q
