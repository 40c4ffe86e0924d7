/- A cell put into a form or taken out of it: both sides make the same cells and ask the same of them. -/
import Derived.Test.YtbplbbialcbceaaDoorPadd
import Derived.Test.YtbplbbialcbceaaDoorPtext
import Derived.Test.YtbplbbialcbceaaDoorQv
namespace Go.Proofs.YtbplbbialcbceaaDoor.Q
set_option linter.unusedSectionVars false
open Go.RowKit Go.Proofs.YtbplbbialcbceaaDoorW.PrintWords Go.Proofs.YtbplbbialcbceaaDoorW.PrintLast Go.Proofs.YtbplbbialcbceaaDoorW.PrintMore
/-- Some direction lets a cell in. -/
def wayB (w h : Nat) (cs : List Int) (a : Int) : Bool := (List.range 4).any fun d => canB w h cs a d
theorem wayB_added {w h : Nat} {cs : List Int} {a : Int} (ha : 0 ≤ a) : wayB w h cs a = true ↔ addedR w h cs a ≠ [] := by
  unfold wayB
  rw [List.any_eq_true]
  constructor
  · rintro ⟨d, hd, hc⟩
    unfold canB at hc
    rw [Bool.and_eq_true] at hc
    unfold addedR
    rw [if_pos ⟨freeAt_dot ha hc.1, hc.2⟩]
    unfold freeTo
    intro e
    have hm : d ∈ (List.range 4).filter fun d => freeAt w h cs a d := List.mem_filter.2 ⟨hd, hc.1⟩
    rw [List.map_eq_nil_iff.1 e] at hm
    simp at hm
  · intro hne
    unfold addedR at hne
    by_cases hc : rd cs a = 46 ∧ nextB w h cs a = true
    · rw [if_pos hc] at hne
      unfold freeTo at hne
      rcases e : (List.range 4).filter (fun d => freeAt w h cs a d) with _ | ⟨d, l⟩
      · rw [e] at hne
        exact absurd rfl hne
      · have hm : d ∈ (List.range 4).filter fun d => freeAt w h cs a d := by rw [e]; exact List.mem_cons_self
        have hm2 := List.mem_filter.1 hm
        refine ⟨d, hm2.1, ?_⟩
        unfold canB
        rw [hm2.2, hc.2]
        rfl
    · rw [if_neg hc] at hne
      exact absurd rfl hne
theorem added_empty (l : List Int) : ((strOfNums l).toList = ([] : List UInt8)) ↔ l = [] := by
  rw [toList_data, strOf_list]
  exact List.map_eq_nil_iff
section
variable {w h : Nat} {cs : List Int} (hw : w ≤ 7) (hh : h ≤ 7) (hs : w * h ≤ 36) (hn : cs.length = w * h)
include hw hh hs hn
theorem buWay_l0 (ho : ∀ c ∈ cs, c ≠ 35) (a : Int) (ha : inCells cs a) : ∀ (m t : Nat), t + m = 4 → ∃ r : Int, Ev (fun k => spec_buWay.l0 k a t w h cs) r ∧ (0 ≤ r ↔ ∃ d : Nat, t ≤ d ∧ d < 4 ∧ canB w h cs a d = true)
  | 0, t, ht => by
    obtain rfl : t = 4 := by omega
    refine ⟨-1, Ev.step (Ev.const (o := some (-1)) rfl) fun k => ?_, ?_⟩
    · rw [spec_buWay.l0, if_neg (by decide)]
    · constructor
      · intro h
        omega
      · rintro ⟨d, h1, h2, _⟩
        omega
  | m + 1, t, ht => by
    obtain ⟨r, h1, h2⟩ := buWay_l0 ho a ha m (t + 1) (by omega)
    have hcan := buCan_ev hw hh hs hn ho t (by omega) a ha
    have hwt : wrap64 ((t : Int) + 1) = ((t + 1 : Nat) : Int) := w64s t (by omega)
    have hstep : ∀ r', Ev (fun k => if canB w h cs a t = true then some (t : Int) else spec_buWay.l0 k a ((t + 1 : Nat) : Int) w h cs) r' → Ev (fun k => spec_buWay.l0 k a t w h cs) r' := by
      intro r' hr
      refine Ev.step (Ev.bind (f := fun k (t102 : Bool) => (if t102 = true then some (t : Int) else spec_buWay.l0 k a ((t + 1 : Nat) : Int) w h cs)) hcan hr) fun k => ?_
      rw [spec_buWay.l0, if_pos (by omega), hwt]
    cases hc : canB w h cs a t with
    | true =>
      refine ⟨t, hstep _ (Ev.congr (Ev.const (o := some (t : Int)) rfl) fun k => by rw [hc, if_pos rfl]), ?_⟩
      exact ⟨fun _ => ⟨t, Nat.le_refl _, by omega, hc⟩, fun _ => Int.natCast_nonneg _⟩
    | false =>
      refine ⟨r, hstep _ (Ev.congr h1 fun k => by rw [hc, if_neg Bool.false_ne_true]), h2.trans ⟨?_, ?_⟩⟩
      · rintro ⟨d, d1, d2, d3⟩
        exact ⟨d, by omega, d2, d3⟩
      · rintro ⟨d, d1, d2, d3⟩
        refine ⟨d, ?_, d2, d3⟩
        rcases Nat.lt_or_ge t d with h5 | h5
        · omega
        · obtain rfl : d = t := by omega
          rw [hc] at d3
          cases d3
theorem buWay_ev (ho : ∀ c ∈ cs, c ≠ 35) (a : Int) (ha : inCells cs a) : ∃ r : Int, Ev (fun k => spec_buWay.f k w h cs a) r ∧ (0 ≤ r ↔ wayB w h cs a = true) := by
  obtain ⟨r, h1, h2⟩ := buWay_l0 hw hh hs hn ho a ha 4 0 (by omega)
  refine ⟨r, h1, h2.trans ?_⟩
  unfold wayB
  rw [List.any_eq_true]
  exact ⟨fun ⟨d, _, d2, d3⟩ => ⟨d, List.mem_range.2 d2, d3⟩, fun ⟨d, d2, d3⟩ => ⟨d, Nat.zero_le _, List.mem_range.1 d2, d3⟩⟩
end
theorem set_open {cs : List Int} (ho : ∀ c ∈ cs, c = 46 ∨ c = 111) (j : Nat) (v : Int) (hv : v = 46 ∨ v = 111) : ∀ c ∈ cs.set j v, c = 46 ∨ c = 111 := by
  intro c hc
  rcases List.mem_or_eq_of_mem_set hc with h | h
  · exact ho c h
  · rw [h]
    exact hv
/-- Balls that hang together, and are as many as forms have. -/
def isB3 (w h : Nat) (cs : List Int) : Prop := (1 ≤ (ballsOf cs).length ∧ (ballsOf cs).length ≤ 10) ∧ (mins w h cs (w * h)).length = 1
theorem formOK_open {w h : Nat} {cs : List Int} (ho : ∀ c ∈ cs, c = 46 ∨ c = 111) : formOK w h cs ↔ isB3 w h cs := ⟨fun hk => hk.2, fun hb => ⟨ho, hb⟩⟩
theorem own_eq (w h : Int) (l : List Int) (h1 : 1 ≤ l.length) (h2 : l.length ≤ 36) : impl_tray_own.f w h l = some (w, h, l) := by
  unfold impl_tray_own.f slices_Clone_u8.f
  rw [if_pos ⟨h1, Nat.le_trans h2 (by decide)⟩]
  rfl
theorem with_eq (w h : Int) (l : List Int) (a v : Int) (ha : inCells l a) (h2 : l.length ≤ 36) : impl_tray_with.f w h l a v = some (w, h, l.set a.toNat v) := by
  unfold inCells at ha
  unfold impl_tray_with.f
  rw [own_eq w h l (by omega) h2, Option.bind_some, if_pos ha.1, if_pos ha.2]
section
variable {w h : Nat} {cs : List Int} (hw1 : 1 ≤ w) (hw : w ≤ 7) (hh1 : 1 ≤ h) (hh : h ≤ 7) (hs : w * h ≤ 36) (hn : cs.length = w * h)
include hw1 hw hh1 hh hs hn
open Classical in
theorem buIs3_ev : Ev (fun k => spec_buIs.f k w h cs) (decide (isB3 w h cs)) := by
  have h1 := buIs_ev hw hh hs hn
  by_cases hk : isB3 w h cs
  · rw [decide_eq_true hk]
    rwa [decide_eq_true (show (1 ≤ (ballsOf cs).length ∧ (ballsOf cs).length ≤ 10) ∧ (mins w h cs (w * h)).length = 1 from hk)] at h1
  · rw [decide_eq_false hk]
    rwa [decide_eq_false (show ¬ ((1 ≤ (ballsOf cs).length ∧ (ballsOf cs).length ≤ 10) ∧ (mins w h cs (w * h)).length = 1) from hk)] at h1
open Classical in
/-- The program's own test of the new form's text. -/
theorem isForm_tx (ho : ∀ c ∈ cs, c = 46 ∨ c = 111) : Ev (fun k => impl_IsForm.f k (tx cs w h)) (decide (isB3 w h cs)) := by
  have h1 := isForm_ev (tx cs w h) (tx_size hw1 hw hh1 hh hs hn)
  have h2 := trayOf_tx hw1 hw hh1 hh hs hn (open_cells ho).1 (open_cells ho).2
  have h3 : (formOf (tx cs w h)).isSome = decide (isB3 w h cs) := by
    unfold formOf
    rw [h2, Option.bind_some]
    show (if formOK w h cs then some ((w : Int), (h : Int), cs) else none).isSome = _
    by_cases hk : isB3 w h cs
    · rw [if_pos ((formOK_open ho).2 hk), decide_eq_true hk]
      rfl
    · rw [if_neg fun h4 => hk ((formOK_open ho).1 h4), decide_eq_false hk]
      rfl
  rw [h3] at h1
  exact h1
end
end Go.Proofs.YtbplbbialcbceaaDoor.Q
