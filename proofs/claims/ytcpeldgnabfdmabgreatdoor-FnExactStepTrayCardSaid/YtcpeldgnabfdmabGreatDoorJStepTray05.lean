/- Texts of this claim, joined. -/
import Derived.Test.YtcpeldgnabfdmabGreatDoorJStepTray04
set_option linter.unusedVariables false
set_option linter.unusedSimpArgs false
set_option linter.unusedSectionVars false
section
namespace Go.Proofs.YtcpeldgnabfdmabGreatDoor.Q
set_option linter.unusedSectionVars false
open Go.RowKit Go.Proofs.YtcpeldgnabfdmabGreatDoorW.PrintWords Go.Proofs.YtcpeldgnabfdmabGreatDoorW.PrintLast Go.Proofs.YtcpeldgnabfdmabGreatDoorW.PrintMore
open Classical
def StepTrayR (t s : ByteArray) : ByteArray × Bool := match trayOf t with
 | none => (⟨#[]⟩, false)
 | some (w, h, cs) => if 0 ≤ dirI s then (tx (stepC w.toNat h.toNat cs (dirI s).toNat) w.toNat h.toNat, true) else (⟨#[]⟩, false)
theorem specStepTray_ev (t s : ByteArray) : Ev (fun k => spec_StepTray.f k t s) (StepTrayR t s) := by
 refine Ev.bind (f := fun k (bt101 : Int × Int × List Int × Int × Bool) => (if bt101.2.2.2.2 = true then ((spec_tiStep.f k bt101.1 bt101.2.1 bt101.2.2.1 bt101.2.2.2.1).bind fun bt109 => ((spec_tyText.f k bt109.1 bt109.2.1 bt109.2.2).bind fun t114 => (some (t114, true)))) else (some ((⟨#[]⟩ : ByteArray), false)))) (tiRead_ev t s) ?_
 unfold StepTrayR
 rcases ht : trayOf t with _ | ⟨w, h, cs⟩
 ·exact Ev.congr (Ev.const rfl) fun k => if_neg Bool.false_ne_true
 ·obtain ⟨w, h, cs, e, hw1, hw, hh1, hh, hs, hn⟩ := tray_parts ht
  injection e with e1 e2
  injection e2 with e2 e3
  subst e1 e2 e3
  have hz : 0 < w * h := Nat.mul_pos hw1 hh1
  show Ev _ (if 0 ≤ dirI s then _ else _)
  by_cases hd : 0 ≤ dirI s
  ·obtain ⟨d, hd4, e, _⟩ := dirI_nat hd
   rw [if_pos hd, e]
   simp only [Int.toNat_natCast]
   have hT := tiStep_ev hw hh hs hd4 hw1 hh1 hn (tray_own ht).1
   have htx := tyText_ev (w := w) (h := h) (cs := stepC w h cs d) hw1 hh1 hs ((stepC_len hw hh hs hd4).trans hn)
   refine Ev.congr (Ev.bind (f := fun k (bt109 : Int × Int × List Int) => ((spec_tyText.f k bt109.1 bt109.2.1 bt109.2.2).bind fun t114 => (some (t114, true)))) hT (Ev.bind (f := fun _ t114 => some (t114, true)) htx (Ev.const rfl))) fun k => ?_
   exact if_pos (decide_eq_true (show (0 : Int) ≤ (d : Int) by omega))
  ·rw [if_neg hd]
   exact Ev.congr (Ev.const rfl) fun k => if_neg (by simpa using hd)
theorem implStepTray_ev (t s : ByteArray) (ht0 : t.size ≤ 1048576) (_hs0 : s.size ≤ 1048576) : Ev (fun k => impl_StepTray.f k t s) (StepTrayR t s) := by
 refine Ev.bind (f := fun k (t101 : Bool) => (if t101 = true then ((impl_read.f t).bind fun bt102 => (if 0 < (s.size : Int) then ((impl_tray_stepped.f k bt102.1 bt102.2.1 bt102.2.2 (bt s 0)).bind fun bt107 => ((impl_tray_text.f bt107.1 bt107.2.1 bt107.2.2).bind fun t112 => (some (t112, true)))) else (none))) else (some ((⟨#[]⟩ : ByteArray), false)))) (isTilted_ev t s ht0) ?_
 unfold StepTrayR
 rcases ht : trayOf t with _ | ⟨w, h, cs⟩
 ·exact Ev.congr (Ev.const rfl) fun k => if_neg (by simp)
 ·have hread := tray_read ht
  obtain ⟨w, h, cs, e, hw1, hw, hh1, hh, hs, hn⟩ := tray_parts ht
  injection e with e1 e2
  injection e2 with e2 e3
  subst e1 e2 e3
  have hz : 0 < w * h := Nat.mul_pos hw1 hh1
  show Ev _ (if 0 ≤ dirI s then _ else _)
  by_cases hd : 0 ≤ dirI s
  ·obtain ⟨d, hd4, e, rfl⟩ := dirI_nat hd
   rw [if_pos hd, e]
   simp only [Int.toNat_natCast]
   obtain ⟨b1, b2⟩ := bt_dir ⟨d, hd4⟩
   simp only at b1 b2
   have htx := text_val w h (stepC w h cs d) hw1 hh1 hs ((stepC_len hw hh hs hd4).trans hn)
   refine Ev.congr (Ev.bind (f := fun _ (bt107 : Int × Int × List Int) => ((impl_tray_text.f bt107.1 bt107.2.1 bt107.2.2).bind fun t112 => (some (t112, true)))) (stepped_ev hw hh hs hd4 hw1 hh1 hn) (Ev.const ?_)) fun k => ?_
   ·show (impl_tray_text.f w h (stepC w h cs d)).bind _ = _
    rw [htx]
    rfl
   ·rw [if_pos (show ((some ((w : Int), (h : Int), cs)).isSome && decide (0 ≤ (d : Int))) = true by rw [decide_eq_true (show (0 : Int) ≤ (d : Int) by omega)]; rfl), hread, Option.bind_some, if_pos b1, b2]
  ·rw [if_neg hd]
   exact Ev.congr (Ev.const rfl) fun k => if_neg (by simpa using hd)
theorem lawStepTray_ev (t : ByteArray) (s : ByteArray) : Ev (fun k => laws_FnExactStepTray.f k t s) true := by
 by_cases ht : t.size ≤ 1048576
 case neg =>
  refine Ev.congr (Ev.const (o := some true) rfl) fun k => ?_
  unfold laws_FnExactStepTray.f
  exact if_pos (by omega)
 by_cases hs : s.size ≤ 1048576
 case neg =>
  refine Ev.congr (Ev.const (o := some true) rfl) fun k => ?_
  unfold laws_FnExactStepTray.f
  rw [if_neg (by omega)]
  exact if_pos (by omega)
 have hsp := specStepTray_ev t s
 have him := implStepTray_ev t s ht hs
 refine Ev.congr (Ev.bind (f := fun k (bt101 : ByteArray × Bool) => ((impl_StepTray.f k t s).bind fun bt103 => (if bt103.1.toList = bt101.1.toList then (if (bt103.2 != bt101.2) = true then (some false) else (some true)) else (some false)))) hsp (Ev.bind (f := fun _ (bt103 : ByteArray × Bool) => (if bt103.1.toList = (StepTrayR t s).1.toList then (if (bt103.2 != (StepTrayR t s).2) = true then (some false) else (some true)) else (some false))) him (Ev.const ?_))) fun k => by unfold laws_FnExactStepTray.f; rw [if_neg (by omega), if_neg (by omega)]
 rw [if_pos rfl, bne_self_eq_false, if_neg (by decide)]
end Go.Proofs.YtcpeldgnabfdmabGreatDoor.Q
end
