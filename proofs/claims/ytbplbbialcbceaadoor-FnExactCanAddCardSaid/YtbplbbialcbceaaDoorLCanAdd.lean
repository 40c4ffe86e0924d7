/- The law FnExactCanAdd, as the program tells it: true at every two texts and number. -/
import Derived.Test.YtbplbbialcbceaaDoorPadd
import Derived.Test.YtbplbbialcbceaaDoorQCanAdd
namespace Go.Proofs.YtbplbbialcbceaaDoor.Q
set_option linter.unusedSectionVars false
open Go.RowKit Go.Proofs.YtbplbbialcbceaaDoorW.PrintWords Go.Proofs.YtbplbbialcbceaaDoorW.PrintLast Go.Proofs.YtbplbbialcbceaaDoorW.PrintMore
noncomputable def CanAddR (s : ByteArray) (a : Int) (t : ByteArray) : Bool × Bool := match formOf s with
  | none => (false, false)
  | some (w, h, cs) => if inCells cs a ∧ 0 ≤ dirI t then (canB w.toNat h.toNat cs a (dirI t).toNat, true) else (false, false)
theorem specCanAdd_ev (s : ByteArray) (a : Int) (t : ByteArray) : Ev (fun k => spec_CanAdd.f k s a t) (CanAddR s a t) := by
  obtain ⟨g, h1, h2⟩ := buCell_ev s a
  refine Ev.bind (f := fun k (bt101 : Int × Int × List Int × Bool) => ((spec_tiDir.f k t).bind fun t108 => (if bt101.2.2.2 = true then (if t108 < 0 then (some (false, false)) else ((spec_buCan.f k bt101.1 bt101.2.1 bt101.2.2.1 a t108).bind fun t109 => (some (t109, true)))) else (some (false, false))))) h1 ?_
  refine Ev.bind (f := fun k (t108 : Int) => (if (match formOf s with | none => false | some (_, _, cs) => decide (inCells cs a)) = true then (if t108 < 0 then (some (false, false)) else ((spec_buCan.f k g.1 g.2.1 g.2.2 a t108).bind fun t109 => (some (t109, true)))) else (some (false, false)))) (tiDir_ev t) ?_
  unfold CanAddR
  rcases hf : formOf s with _ | u
  · exact Ev.congr (Ev.const (o := some (false, false)) rfl) fun k => if_neg Bool.false_ne_true
  · obtain rfl := h2 u hf
    obtain ⟨w, h, cs, rfl, hw1, hw, hh1, hh, hs, hn, hk, ht⟩ := form_parts hf
    show Ev (fun k => if decide (inCells cs a) = true then (if dirI t < 0 then (some (false, false)) else ((spec_buCan.f k w h cs a (dirI t)).bind fun t109 => (some (t109, true)))) else (some (false, false))) (if _ then _ else _)
    by_cases hc : inCells cs a
    · by_cases hd : 0 ≤ dirI t
      · rw [if_pos ⟨hc, hd⟩]
        rcases dirI_cases t with ⟨e, _⟩ | ⟨d, hd4, e, _⟩
        · omega
        · rw [e]
          simp only [Int.toNat_natCast]
          have h3 := buCan_ev hw hh hs hn (fun c hm e => by rcases form_open hk c hm with h | h <;> omega) d hd4 a hc
          refine Ev.congr (Ev.bind (f := fun _ (t109 : Bool) => some (t109, true)) h3 (Ev.const rfl)) fun k => ?_
          rw [if_pos (decide_eq_true hc), if_neg (by omega)]
      · rw [if_neg fun h => hd h.2]
        refine Ev.congr (Ev.const (o := some (false, false)) rfl) fun k => ?_
        rw [if_pos (decide_eq_true hc), if_pos (by omega)]
    · rw [if_neg fun h => hc h.1]
      exact Ev.congr (Ev.const (o := some (false, false)) rfl) fun k => if_neg (by simpa using hc)
theorem implCanAdd_ev (s : ByteArray) (a : Int) (t : ByteArray) (hs : s.size ≤ 1048576) (_ht : t.size ≤ 1048576) : Ev (fun k => impl_CanAdd.f k s a t) (CanAddR s a t) := by
  refine Ev.bind (f := fun k (t101 : Bool) => (if t101 = true then ((impl_isDir.f t).bind fun t102 => (impl_CanAdd.j0 k s a t (!t102))) else (impl_CanAdd.j0 k s a t true))) (isFormCell_ev s hs a) ?_
  have hno : Ev (fun k => impl_CanAdd.j0 k s a t true) (false, false) := Ev.step (Ev.const (o := some (false, false)) rfl) fun k => by rw [impl_CanAdd.j0, if_pos rfl]
  unfold CanAddR
  rcases hf : formOf s with _ | u
  · exact Ev.congr hno fun k => if_neg Bool.false_ne_true
  · obtain ⟨w, h, cs, rfl, hw1, hw, hh1, hh, hs2, hn, hk, ht⟩ := form_parts hf
    have hread := tray_read ht
    show Ev (fun k => if decide (inCells cs a) = true then _ else _) (if _ then _ else _)
    by_cases hc : inCells cs a
    · refine Ev.congr (g' := fun k => impl_CanAdd.j0 k s a t (!decide (0 ≤ dirI t))) ?_ fun k => by rw [if_pos (decide_eq_true hc), isDir_eq, Option.bind_some]
      by_cases hd : 0 ≤ dirI t
      · rw [if_pos ⟨hc, hd⟩, decide_eq_true hd]
        rcases dirI_cases t with ⟨e, _⟩ | ⟨d, hd4, e, e2⟩
        · omega
        · rw [e]
          simp only [Int.toNat_natCast]
          have h3 := added_ev hw hh hs2 hn a hc
          have h4 := added_has hw hh hs2 hn a (by unfold inCells at hc; omega) d hd4
          rw [← one_byte_of e2] at h4
          refine Ev.step (Ev.bind (f := fun _ t108 => ((strings_Contains.f t108 t).bind fun t109 => (some (t109, true)))) h3 (Ev.const (by rw [h4]; rfl))) fun k => ?_
          rw [impl_CanAdd.j0, if_neg (by decide), hread, Option.bind_some]
      · rw [if_neg fun h => hd h.2, decide_eq_false hd]
        exact hno
    · rw [if_neg fun h => hc h.1]
      exact Ev.congr hno fun k => if_neg (by simpa using hc)
theorem lawCanAdd_ev (s : ByteArray) (a : Int) (t : ByteArray) : Ev (fun k => laws_FnExactCanAdd.f k s a t) true := by
  by_cases hs : s.size ≤ 1048576
  case neg =>
    refine Ev.congr (Ev.const (o := some true) rfl) fun k => ?_
    unfold laws_FnExactCanAdd.f
    exact if_pos (by omega)
  by_cases ht : t.size ≤ 1048576
  case neg =>
    refine Ev.congr (Ev.const (o := some true) rfl) fun k => ?_
    unfold laws_FnExactCanAdd.f
    rw [if_neg (by omega)]
    exact if_pos (by omega)
  have hsp := specCanAdd_ev s a t
  have him := implCanAdd_ev s a t hs ht
  refine Ev.congr (Ev.bind (f := fun k (bt101 : Bool × Bool) => ((impl_CanAdd.f k s a t).bind fun bt103 => (if (bt103.1 != bt101.1) = true then (some false) else (if (bt103.2 != bt101.2) = true then (some false) else (some true))))) hsp (Ev.bind (f := fun _ (bt103 : Bool × Bool) => (if (bt103.1 != (CanAddR s a t).1) = true then (some false) else (if (bt103.2 != (CanAddR s a t).2) = true then (some false) else (some true)))) him (Ev.const ?_))) fun k => by unfold laws_FnExactCanAdd.f; rw [if_neg (by omega), if_neg (by omega)]
  rw [bne_self_eq_false, if_neg (by decide), bne_self_eq_false, if_neg (by decide)]
end Go.Proofs.YtbplbbialcbceaaDoor.Q
