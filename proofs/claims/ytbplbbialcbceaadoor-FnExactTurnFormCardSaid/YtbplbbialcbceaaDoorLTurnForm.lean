/- The law FnExactTurnForm, as the program tells it: true at every text. -/
import Derived.Test.YtbplbbialcbceaaDoorPturn
import Derived.Test.YtbplbbialcbceaaDoorQTurnForm
namespace Go.Proofs.YtbplbbialcbceaaDoor.Q
set_option linter.unusedSectionVars false
open Go.RowKit Go.Proofs.YtbplbbialcbceaaDoorW.PrintWords Go.Proofs.YtbplbbialcbceaaDoorW.PrintLast Go.Proofs.YtbplbbialcbceaaDoorW.PrintMore
noncomputable def TurnFormR (s : ByteArray) : ByteArray × Bool := match formOf s with
  | none => (⟨#[]⟩, false)
  | some (w, h, cs) => (tx (turnL w.toNat h.toNat cs) h.toNat w.toNat, true)
open Classical in
theorem formOf_tray {s : ByteArray} {w h : Int} {cs : List Int} (ht : trayOf s = some (w, h, cs)) : formOf s = if formOK w.toNat h.toNat cs then some (w, h, cs) else none := by
  unfold formOf
  rw [ht]
  rfl
theorem formOf_none {s : ByteArray} (ht : trayOf s = none) : formOf s = none := by
  unfold formOf
  rw [ht]
  rfl
open Classical in
theorem specTurnForm_ev (s : ByteArray) : Ev (fun k => spec_TurnForm.f k s) (TurnFormR s) := by
  refine Ev.bind (f := fun k (bt101 : Int × Int × List Int × Bool) => (if bt101.2.2.2 = true then ((spec_tyTurn.f k bt101.1 bt101.2.1 bt101.2.2.1).bind fun bt108 => ((spec_tyText.f k bt108.1 bt108.2.1 bt108.2.2).bind fun t113 => (some (t113, true)))) else (some ((⟨#[]⟩ : ByteArray), false)))) (buRead_ev s) ?_
  unfold TurnFormR
  rcases ht : trayOf s with _ | ⟨w, h, cs⟩
  · rw [formOf_none ht]
    exact Ev.const rfl
  · rw [formOf_tray ht]
    obtain ⟨w, h, cs, e, hw1, hw, hh1, hh, hs, hn⟩ := tray_parts ht
    injection e with e1 e2
    injection e2 with e2 e3
    subst e1 e2 e3
    by_cases hk : formOK w h cs
    · rw [Int.toNat_natCast, Int.toNat_natCast, if_pos hk]
      have h1 := tyTurn_ev hw1 hw hh1 hh hs hn
      have h2 := tyText_ev (w := h) (h := w) (cs := turnL w h cs) hh1 hw1 (by rw [Nat.mul_comm]; exact hs) (by rw [turnL_len, Nat.mul_comm])
      refine Ev.congr (Ev.bind (f := fun k (bt108 : Int × Int × List Int) => ((spec_tyText.f k bt108.1 bt108.2.1 bt108.2.2).bind fun t113 => (some (t113, true)))) h1 (Ev.bind (f := fun _ t113 => some (t113, true)) h2 (Ev.const rfl))) fun k => ?_
      show (if decide (formOK w h cs) = true then _ else _) = _
      rw [if_pos (decide_eq_true hk)]
    · rw [Int.toNat_natCast, Int.toNat_natCast, if_neg hk]
      refine Ev.congr (Ev.const (o := some ((⟨#[]⟩ : ByteArray), false)) rfl) fun k => ?_
      show (if decide (formOK w h cs) = true then _ else _) = _
      rw [if_neg (by simpa using hk)]
theorem turnTray_ev (s : ByteArray) (hs : s.size ≤ 1048576) : Ev (fun k => impl_TurnTray.f k s) (match trayOf s with | none => (⟨#[]⟩, false) | some (w, h, cs) => (tx (turnL w.toNat h.toNat cs) h.toNat w.toNat, true)) := by
  refine Ev.bind (f := fun _ (bt101 : ByteArray × Bool) => (some (bt101.1, bt101.2))) ?_ (Ev.const rfl)
  refine Ev.bind (f := fun k (t101 : Bool) => (if t101 = true then ((impl_read.f s).bind fun bt102 => ((impl_tray_turned.f k bt102.1 bt102.2.1 bt102.2.2).bind fun bt107 => ((impl_tray_text.f bt107.1 bt107.2.1 bt107.2.2).bind fun t112 => (some (t112, true))))) else (some ((⟨#[]⟩ : ByteArray), false)))) (isTray_ev s hs) ?_
  rcases ht : trayOf s with _ | ⟨w, h, cs⟩
  · exact Ev.congr (Ev.const (o := some ((⟨#[]⟩ : ByteArray), false)) rfl) fun k => if_neg Bool.false_ne_true
  · have hread := tray_read ht
    obtain ⟨w, h, cs, e, hw1, hw, hh1, hh, hs2, hn⟩ := tray_parts ht
    injection e with e1 e2
    injection e2 with e2 e3
    subst e1 e2 e3
    have h1 := turned_ev hw1 hw hh1 hh hs2 hn
    have h2 := text_val h w (turnL w h cs) hh1 hw1 (by rw [Nat.mul_comm]; exact hs2) (by rw [turnL_len, Nat.mul_comm])
    refine Ev.congr (Ev.bind (f := fun _ (bt107 : Int × Int × List Int) => ((impl_tray_text.f bt107.1 bt107.2.1 bt107.2.2).bind fun t112 => (some (t112, true)))) h1 (Ev.const ?_)) fun k => ?_
    · show (impl_tray_text.f h w (turnL w h cs)).bind _ = _
      rw [h2]
      rfl
    · show (if true = true then _ else _) = _
      rw [if_pos rfl, hread, Option.bind_some]
theorem implTurnForm_ev (s : ByteArray) (hs : s.size ≤ 1048576) : Ev (fun k => impl_TurnForm.f k s) (TurnFormR s) := by
  refine Ev.bind (f := fun k (t101 : Bool) => (if t101 = true then ((impl_TurnTray.f k s).bind fun bt102 => (some (bt102.1, bt102.2))) else (some ((⟨#[]⟩ : ByteArray), false)))) (isForm_ev s hs) ?_
  unfold TurnFormR
  rcases hf : formOf s with _ | t
  · exact Ev.congr (Ev.const (o := some ((⟨#[]⟩ : ByteArray), false)) rfl) fun k => if_neg Bool.false_ne_true
  · obtain ⟨w, h, cs, rfl, hw1, hw, hh1, hh, hs2, hn, hk, ht⟩ := form_parts hf
    have h1 := turnTray_ev s hs
    rw [ht] at h1
    exact Ev.congr (Ev.bind (f := fun _ (bt102 : ByteArray × Bool) => some (bt102.1, bt102.2)) h1 (Ev.const rfl)) fun k => if_pos rfl
theorem lawTurnForm_ev (s : ByteArray) : Ev (fun k => laws_FnExactTurnForm.f k s) true := by
  by_cases hs : s.size ≤ 1048576
  case neg =>
    refine Ev.congr (Ev.const (o := some true) rfl) fun k => ?_
    unfold laws_FnExactTurnForm.f
    exact if_pos (by omega)
  have hsp := specTurnForm_ev s
  have him := implTurnForm_ev s hs
  refine Ev.congr (Ev.bind (f := fun k (bt101 : ByteArray × Bool) => ((impl_TurnForm.f k s).bind fun bt103 => (if bt103.1.toList = bt101.1.toList then (if (bt103.2 != bt101.2) = true then (some false) else (some true)) else (some false)))) hsp (Ev.bind (f := fun _ (bt103 : ByteArray × Bool) => (if bt103.1.toList = (TurnFormR s).1.toList then (if (bt103.2 != (TurnFormR s).2) = true then (some false) else (some true)) else (some false))) him (Ev.const ?_))) fun k => by unfold laws_FnExactTurnForm.f; rw [if_neg (by omega)]
  rw [if_pos rfl, bne_self_eq_false, if_neg (by decide)]
end Go.Proofs.YtbplbbialcbceaaDoor.Q
