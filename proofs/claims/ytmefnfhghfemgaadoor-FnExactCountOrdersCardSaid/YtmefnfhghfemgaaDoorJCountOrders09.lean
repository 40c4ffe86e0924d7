/- Texts of this claim, joined. -/
import Derived.Test.YtmefnfhghfemgaaDoorJCountOrders08
import Derived.Test.YtmefnfhghfemgaaDoorJCountOrders05
set_option linter.unusedVariables false
set_option linter.unusedSimpArgs false
set_option linter.unusedSectionVars false
section
namespace Go.Proofs.YtmefnfhghfemgaaDoor.Q
set_option linter.unusedSectionVars false
set_option linter.unusedSimpArgs false
open Go.RowKit Go.Proofs.YtmefnfhghfemgaaDoorW.PrintWords Go.Proofs.YtmefnfhghfemgaaDoorW.PrintLast Go.Proofs.YtmefnfhghfemgaaDoorW.PrintMore
open Classical
noncomputable def CountOrdersR (s : ByteArray) : Int × Bool := match formOf s with
 | none => (0, false)
 | some (w, h, cs) => (((cntQ w.toNat h.toNat cs 0 : Nat) : Int), true)
theorem pow_one {n : Nat} (h : 1 ≤ n) : 2 ^ n - 1 ≠ 0 := by
 have := Nat.pow_le_pow_right (show 0 < 2 by decide) h
 omega
theorem specCountOrders_ev (s : ByteArray) : Ev (fun k => spec_CountOrders.f k s) (CountOrdersR s) := by
 refine Ev.bind (f := fun k (bt101 : Int × Int × List Int × Bool) => (if bt101.2.2.2 = true then ((spec_buCount.f k bt101.1 bt101.2.1 bt101.2.2.1 (-1)).bind fun t108 => (some (t108, true))) else (some (0, false)))) (buRead_ev s) ?_
 unfold CountOrdersR
 rcases hf : formOf s with _ | t
 ·rcases ht : trayOf s with _ | ⟨w, h, cs⟩
  ·exact Ev.const rfl
  ·have hk : ¬ formOK w.toNat h.toNat cs := by
    intro hk
    unfold formOf at hf
    rw [ht, Option.bind_some, if_pos hk] at hf
    cases hf
   refine Ev.congr (Ev.const (o := some ((0 : Int), false)) rfl) fun k => ?_
   show (if decide (formOK w.toNat h.toNat cs) = true then _ else _) = _
   rw [decide_eq_false hk, if_neg (by decide)]
 ·obtain ⟨w, h, cs, rfl, hw1, hw, hh1, hh, hs, hn, hk, ht⟩ := form_parts hf
  rw [ht]
  simp only [Int.toNat_natCast]
  have h1 := buCount_ev hw1 hw hh1 hh hs hn hk.2.1.2 (x1 := -1) (S0 := 0) (Or.inl ⟨rfl, rfl⟩)
  rw [show tabQ w h cs 0 (2 ^ (ballsOf cs).length - 1) = cntQ w h cs 0 from if_neg (pow_one hk.2.1.1)] at h1
  refine Ev.congr (Ev.bind (f := fun _ (t108 : Int) => some (t108, true)) h1 (Ev.const rfl)) fun k => ?_
  rw [decide_eq_true hk, if_pos rfl]
theorem implCountOrders_ev (s : ByteArray) (hs : s.size ≤ 1048576) : Ev (fun k => impl_CountOrders.f k s) (CountOrdersR s) := by
 refine Ev.bind (f := fun k (b : Bool) => if b = true then (impl_read.f s).bind fun g => (impl_tray_indices_isBall.f k g.1 g.2.1 g.2.2 ()).bind fun L => (ordF k g.1 g.2.1 g.2.2 L 0).bind fun r => some (r, true) else some (0, false)) (isForm_ev s hs) ?_
 unfold CountOrdersR
 rcases hf : formOf s with _ | t
 ·exact Ev.congr (Ev.const (o := some ((0 : Int), false)) rfl) fun k => if_neg (by decide)
 ·obtain ⟨w, h, cs, rfl, hw1, hw, hh1, hh, hs2, hn, hk, ht⟩ := form_parts hf
  have hread := tray_read ht
  simp only [Int.toNat_natCast]
  have h1 := ordF_ev hw hh hs2 hn hk.2.1.2 (form_open hk) (by rw [hn]; exact Nat.mul_le_mul hw1 hh1) (2 ^ (ballsOf cs).length) 0 (Nat.le_refl _) (Nat.two_pow_pos _)
  refine Ev.congr (g' := fun k => (impl_tray_indices_isBall.f k w h cs ()).bind fun L => (ordF k w h cs L 0).bind fun r => some (r, true)) ?_ fun k => ?_
  ·refine Ev.bind (f := fun k L => (ordF k w h cs L 0).bind fun r => some (r, true)) (indices_ev cs (by rw [hn]; exact hs2) w h) ?_
   exact Ev.bind (f := fun _ (r : Int) => some (r, true)) h1 (Ev.const rfl)
  ·show (if true = true then _ else _) = _
   rw [if_pos rfl, hread, Option.bind_some]
end Go.Proofs.YtmefnfhghfemgaaDoor.Q
end
section
namespace Go.Proofs.YtmefnfhghfemgaaDoor.Q
set_option linter.unusedSectionVars false
open Go.RowKit Go.Proofs.YtmefnfhghfemgaaDoorW.PrintWords Go.Proofs.YtmefnfhghfemgaaDoorW.PrintLast Go.Proofs.YtmefnfhghfemgaaDoorW.PrintMore
theorem lawCountOrders_ev (s : ByteArray) : Ev (fun k => laws_FnExactCountOrders.f k s) true := by
 by_cases hs : s.size ≤ 1048576
 case neg =>
  refine Ev.congr (Ev.const (o := some true) rfl) fun k => ?_
  unfold laws_FnExactCountOrders.f
  exact if_pos (by omega)
 refine Ev.congr (Ev.bind (f := fun k (bt101 : Int × Bool) => ((impl_CountOrders.f k s).bind fun bt103 => (if bt103.1 = bt101.1 then (if (bt103.2 != bt101.2) = true then (some false) else (some true)) else (some false)))) (specCountOrders_ev s) (Ev.bind (f := fun _ (bt103 : Int × Bool) => (if bt103.1 = (CountOrdersR s).1 then (if (bt103.2 != (CountOrdersR s).2) = true then (some false) else (some true)) else (some false))) (implCountOrders_ev s hs) (Ev.const ?_))) fun k => by unfold laws_FnExactCountOrders.f; rw [if_neg (by omega)]
 rw [if_pos rfl, bne_self_eq_false, if_neg Bool.false_ne_true]
end Go.Proofs.YtmefnfhghfemgaaDoor.Q
end
