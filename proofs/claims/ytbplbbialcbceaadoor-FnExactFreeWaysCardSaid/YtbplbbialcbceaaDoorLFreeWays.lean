/- The law FnExactFreeWays, as the program tells it: true at every text and number. -/
import Derived.Test.YtbplbbialcbceaaDoorPahead
import Derived.Test.YtbplbbialcbceaaDoorPcell
import Derived.Test.YtbplbbialcbceaaDoorQFreeWays
namespace Go.Proofs.YtbplbbialcbceaaDoor.Q
open Go.RowKit Go.Proofs.YtbplbbialcbceaaDoorW.PrintWords Go.Proofs.YtbplbbialcbceaaDoorW.PrintLast Go.Proofs.YtbplbbialcbceaaDoorW.PrintMore
noncomputable def FreeWaysR (s : ByteArray) (a : Int) : ByteArray × Bool := match formOf s with
  | none => (⟨#[]⟩, false)
  | some (w, h, cs) => if inCells cs a ∧ rd cs a = 46 then (strOfNums (freeTo w.toNat h.toNat cs a 4), true) else (⟨#[]⟩, false)
theorem dirs_cut : ∀ d : Fin 4, (⟨#[117, 114, 100, 108]⟩ : ByteArray).extract ((d.val : Int)).toNat (((d.val + 1 : Nat) : Int)).toNat = strOfNums [dirC d.val] := by decide
theorem strOfNums_append (a b : List Int) : strOfNums a ++ strOfNums b = strOfNums (a ++ b) := by
  apply ByteArray.ext
  apply Array.ext'
  simp [strOfNums, ByteArray.data_append]
section
variable {w h : Nat} {cs : List Int} (hw : w ≤ 7) (hh : h ≤ 7) (hs : w * h ≤ 36) (hn : cs.length = w * h)
include hw hh hs hn
theorem sfw_l0 (ho : ∀ c ∈ cs, c ≠ 35) (a : Int) (ha : inCells cs a) : ∀ (m t : Nat), t + m = 4 → Ev (fun k => spec_FreeWays.l0 k a (strOfNums (freeTo w h cs a t)) t w h cs) (strOfNums (freeTo w h cs a 4), true)
  | 0, t, ht => by
    obtain rfl : t = 4 := by omega
    refine Ev.step (Ev.const (o := some (strOfNums (freeTo w h cs a 4), true)) rfl) fun k => ?_
    rw [spec_FreeWays.l0, if_neg (by decide)]
  | m + 1, t, ht => by
    have ih := sfw_l0 ho a ha m (t + 1) (by omega)
    have ht4 : t < 4 := by omega
    have hwt : wrap64 ((t : Int) + 1) = ((t + 1 : Nat) : Int) := by rw [w64 (by omega) (by omega)]; omega
    have hbf := buFree_ev hw hh hs hn ho t ht4 a ha
    have hcut := dirs_cut ⟨t, ht4⟩
    simp only at hcut
    have hfl := freeTo_len w h cs a t
    have c6 : (strOfNums (freeTo w h cs a t)).size + (strOfNums [dirC t]).size ≤ 9223372036854775807 := by
      rw [strOfNums_size, strOfNums_size]
      simp only [List.length_singleton]
      exact Nat.le_trans (Nat.add_le_add_right hfl 1) (Nat.le_trans (show t + 1 ≤ 5 by omega) (by decide))
    rw [freeTo_succ] at ih
    have hsz : ((⟨#[117, 114, 100, 108]⟩ : ByteArray).size : Int) = 4 := rfl
    refine Ev.step (Ev.bind (f := fun k (t109 : Bool) => (if t109 = true then spec_FreeWays.l0 k a (strOfNums (freeTo w h cs a t ++ [dirC t])) ((t + 1 : Nat) : Int) w h cs else spec_FreeWays.l0 k a (strOfNums (freeTo w h cs a t)) ((t + 1 : Nat) : Int) w h cs)) hbf (Ev.congr ih fun k => ?_)) fun k => ?_
    · by_cases hf : freeAt w h cs a t = true
      · rw [if_pos hf, if_pos hf]
      · rw [if_neg hf, if_neg hf]
    · rw [spec_FreeWays.l0, if_pos (by omega), hwt]
      congr 1
      funext t109
      by_cases hf : t109 = true
      · rw [if_pos hf, if_pos hf]
        show (Option.some (⟨#[117, 114, 100, 108]⟩ : ByteArray)).bind _ = _
        rw [Option.bind_some, if_pos (by omega), if_pos (by omega), if_pos (by rw [hsz]; omega), hcut, if_pos c6, strOfNums_append]
      · rw [if_neg hf, if_neg hf]
end
theorem specFreeWays_ev (s : ByteArray) (a : Int) : Ev (fun k => spec_FreeWays.f k s a) (FreeWaysR s a) := by
  obtain ⟨g, h1, h2⟩ := buCell_ev s a
  refine Ev.bind (f := fun k bt101 => (if bt101.2.2.2 = true then (if 0 ≤ a then (if a < (bt101.2.2.1.length : Int) then (spec_FreeWays.j0 k a ((rd bt101.2.2.1 a) != 46) bt101.1 bt101.2.1 bt101.2.2.1) else (none)) else (none)) else (spec_FreeWays.j0 k a true bt101.1 bt101.2.1 bt101.2.2.1))) h1 ?_
  have hno : ∀ x y z, Ev (fun k => spec_FreeWays.j0 k a true x y z) ((⟨#[]⟩ : ByteArray), false) := fun x y z => Ev.step (Ev.const (o := some ((⟨#[]⟩ : ByteArray), false)) rfl) fun k => by rw [spec_FreeWays.j0, if_pos rfl]
  unfold FreeWaysR
  rcases hf : formOf s with _ | t
  · exact Ev.congr (hno _ _ _) fun k => if_neg Bool.false_ne_true
  · obtain rfl := h2 t hf
    obtain ⟨w, h, cs, rfl, hw1, hw, hh1, hh, hs, hn, hk, ht⟩ := form_parts hf
    show Ev (fun k => if decide (inCells cs a) = true then (if 0 ≤ a then (if a < (cs.length : Int) then (spec_FreeWays.j0 k a ((rd cs a) != 46) w h cs) else (none)) else (none)) else (spec_FreeWays.j0 k a true w h cs)) (if _ then _ else _)
    by_cases hc : inCells cs a
    · have ha := hc
      unfold inCells at ha
      refine Ev.congr (g' := fun k => spec_FreeWays.j0 k a ((rd cs a) != 46) w h cs) ?_ fun k => by rw [if_pos (decide_eq_true hc), if_pos ha.1, if_pos ha.2]
      by_cases hr : rd cs a = 46
      · rw [if_pos ⟨hc, hr⟩]
        have h3 := sfw_l0 hw hh hs hn (fun c hm e => by rcases form_open hk c hm with h | h <;> omega) a hc 4 0 (by omega)
        simp only [Int.toNat_natCast]
        refine Ev.step h3 fun k => ?_
        rw [spec_FreeWays.j0, hr, if_neg (by decide)]
        rfl
      · rw [if_neg fun h => hr h.2]
        rw [show (rd cs a != 46) = true from bne_iff_ne.2 hr]
        exact hno _ _ _
    · rw [if_neg fun h => hc h.1]
      exact Ev.congr (hno w h cs) fun k => if_neg (by simpa using hc)
theorem implFreeWays_ev (s : ByteArray) (a : Int) (hs : s.size ≤ 1048576) : Ev (fun k => impl_FreeWays.f k s a) (FreeWaysR s a) := by
  refine Ev.bind (f := fun k (t101 : Bool) => (if t101 = true then ((impl_read.f s).bind fun bt102 => (if 0 ≤ a then (if a < (bt102.2.2.length : Int) then (impl_FreeWays.j0 k s a ((rd bt102.2.2 a) != 46)) else (none)) else (none))) else (impl_FreeWays.j0 k s a true))) (isFormCell_ev s hs a) ?_
  have hno : Ev (fun k => impl_FreeWays.j0 k s a true) ((⟨#[]⟩ : ByteArray), false) := Ev.step (Ev.const (o := some ((⟨#[]⟩ : ByteArray), false)) rfl) fun k => by rw [impl_FreeWays.j0, if_pos rfl]
  unfold FreeWaysR
  rcases hf : formOf s with _ | t
  · exact Ev.congr hno fun k => if_neg Bool.false_ne_true
  · obtain ⟨w, h, cs, rfl, hw1, hw, hh1, hh, hs2, hn, hk, ht⟩ := form_parts hf
    have hread := tray_read ht
    show Ev (fun k => if decide (inCells cs a) = true then _ else _) (if _ then _ else _)
    by_cases hc : inCells cs a
    · have ha := hc
      unfold inCells at ha
      refine Ev.congr (g' := fun k => impl_FreeWays.j0 k s a ((rd cs a) != 46)) ?_ fun k => by rw [if_pos (decide_eq_true hc), hread, Option.bind_some, if_pos ha.1, if_pos ha.2]
      by_cases hr : rd cs a = 46
      · rw [if_pos ⟨hc, hr⟩]
        have h3 := freeWays_ev hw hh hs2 hn a hc
        simp only [Int.toNat_natCast]
        refine Ev.step (Ev.bind (f := fun _ t113 => some (t113, true)) h3 (Ev.const rfl)) fun k => ?_
        rw [impl_FreeWays.j0, hr, if_neg (by decide), hread, Option.bind_some]
      · rw [if_neg fun h => hr h.2]
        rw [show (rd cs a != 46) = true from bne_iff_ne.2 hr]
        exact hno
    · rw [if_neg fun h => hc h.1]
      exact Ev.congr hno fun k => if_neg (by simpa using hc)
theorem lawFreeWays_ev (s : ByteArray) (a : Int) : Ev (fun k => laws_FnExactFreeWays.f k s a) true := by
  by_cases hs : s.size ≤ 1048576
  case neg =>
    refine Ev.congr (Ev.const (o := some true) rfl) fun k => ?_
    unfold laws_FnExactFreeWays.f
    exact if_pos (by omega)
  have hsp := specFreeWays_ev s a
  have him := implFreeWays_ev s a hs
  refine Ev.congr (Ev.bind (f := fun k (bt101 : ByteArray × Bool) => ((impl_FreeWays.f k s a).bind fun bt103 => (if bt103.1.toList = bt101.1.toList then (if (bt103.2 != bt101.2) = true then (some false) else (some true)) else (some false)))) hsp (Ev.bind (f := fun _ (bt103 : ByteArray × Bool) => (if bt103.1.toList = (FreeWaysR s a).1.toList then (if (bt103.2 != (FreeWaysR s a).2) = true then (some false) else (some true)) else (some false))) him (Ev.const ?_))) fun k => by unfold laws_FnExactFreeWays.f; rw [if_neg (by omega)]
  rw [if_pos rfl, bne_self_eq_false, if_neg (by decide)]
end Go.Proofs.YtbplbbialcbceaaDoor.Q
