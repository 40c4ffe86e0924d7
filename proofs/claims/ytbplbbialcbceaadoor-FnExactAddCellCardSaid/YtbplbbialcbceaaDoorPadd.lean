/- Whether a cell can be added to a form: both sides say the same. -/
import Derived.Test.YtbplbbialcbceaaDoorPdir
import Derived.Test.YtbplbbialcbceaaDoorPcell
import Derived.Test.YtbplbbialcbceaaDoorQj
import Derived.Test.YtbplbbialcbceaaDoorXadded
namespace Go.Proofs.YtbplbbialcbceaaDoor.Q
set_option linter.unusedSectionVars false
open Go.RowKit Go.Proofs.YtbplbbialcbceaaDoorW.PrintWords Go.Proofs.YtbplbbialcbceaaDoorW.PrintLast Go.Proofs.YtbplbbialcbceaaDoorW.PrintMore
theorem ballB_eq (cs : List Int) (j : Int) : ballB cs j = bI cs j := rfl
/-- A cell has a ball beside it. -/
def nextB (w h : Nat) (cs : List Int) (a : Int) : Bool := (nbs w h a.toNat).any (ballB cs)
def canB (w h : Nat) (cs : List Int) (a : Int) (d : Nat) : Bool := freeAt w h cs a d && nextB w h cs a
theorem freeAt_dot {w h : Nat} {cs : List Int} {a : Int} {d : Nat} (ha : 0 ≤ a) (hf : freeAt w h cs a d = true) : rd cs a = 46 := by
  unfold freeAt fr at hf
  rw [if_neg (by omega)] at hf
  by_cases h : rd cs a = 46
  · exact h
  · rw [if_neg h] at hf
    cases hf
section
variable {w h : Nat} {cs : List Int} (hw : w ≤ 7) (hh : h ≤ 7) (hs : w * h ≤ 36) (hn : cs.length = w * h)
include hw hh hs hn
theorem next_l0 (L : List Int) (hL : ∀ v ∈ L, 0 ≤ v ∧ v < ((w * h : Nat) : Int)) (hl : L.length ≤ 4) : ∀ (m t : Nat), t + m = L.length → Ev (fun k => spec_buNext.l0 k L L.length t w h cs) ((L.drop t).any (ballB cs))
  | 0, t, ht => by
    rw [List.drop_eq_nil_of_le (by omega)]
    refine Ev.step (Ev.const (o := some false) rfl) fun k => ?_
    rw [spec_buNext.l0, if_neg (by omega)]
  | m + 1, t, ht => by
    have ih := next_l0 L hL hl m (t + 1) (by omega)
    have hlt : t < L.length := by omega
    have hwt : wrap64 ((t : Int) + 1) = ((t + 1 : Nat) : Int) := by rw [w64 (by omega) (by omega)]; omega
    have hrd := rd_nat L t hlt
    have hv := hL _ (List.getElem_mem hlt)
    rw [List.drop_eq_getElem_cons hlt, List.any_cons]
    generalize L[t] = v at hrd hv ⊢
    have c1 : v < (cs.length : Int) := by omega
    have hgo : ∀ k, spec_buNext.l0 (k + 1) L L.length t w h cs = if ballB cs v = true then some true else spec_buNext.l0 k L L.length ((t + 1 : Nat) : Int) w h cs := by
      intro k
      rw [spec_buNext.l0, if_pos (by omega), if_pos (by omega), if_pos (by omega), hrd, if_pos hv.1, if_pos c1, tyBall_eq, Option.bind_some, hwt]
      rfl
    cases hb : ballB cs v with
    | true =>
      refine Ev.step (Ev.const (o := some true) rfl) fun k => ?_
      rw [hgo, if_pos hb]
    | false =>
      rw [Bool.false_or]
      refine Ev.step ih fun k => ?_
      rw [hgo, hb, if_neg Bool.false_ne_true]
theorem buNext_ev (a : Int) (ha : inCells cs a) : Ev (fun k => spec_buNext.f k w h cs a) (nextB w h cs a) := by
  unfold inCells at ha
  obtain ⟨j, rfl⟩ : ∃ j : Nat, a = j := ⟨a.toNat, by omega⟩
  have hj : j < w * h := by omega
  have h1 := near_ev hw hh hs hj cs
  have h2 := next_l0 hw hh hs hn (nbs w h j) (fun v hv => by have := nbs_at hw hh hs hj hv; exact ⟨this.1, this.2.1⟩) (nbs_len hw hh hs hj) _ 0 (Nat.zero_add _)
  rw [List.drop_zero] at h2
  exact Ev.bind (f := fun k t102 => spec_buNext.l0 k t102 (t102.length : Int) 0 w h cs) h1 h2
theorem buCan_ev (ho : ∀ c ∈ cs, c ≠ 35) (d : Nat) (hd : d < 4) (a : Int) (ha : inCells cs a) : Ev (fun k => spec_buCan.f k w h cs a d) (canB w h cs a d) := by
  refine Ev.bind (f := fun k (t102 : Bool) => (if t102 = true then ((spec_buNext.f k w h cs a).bind fun t103 => (some t103)) else (some false))) (buFree_ev hw hh hs hn ho d hd a ha) ?_
  unfold canB
  cases freeAt w h cs a d with
  | true => exact Ev.congr (Ev.bind (f := fun _ (t103 : Bool) => some t103) (buNext_ev hw hh hs hn a ha) (Ev.const rfl)) fun k => if_pos rfl
  | false => exact Ev.congr (Ev.const (o := some false) rfl) fun k => if_neg Bool.false_ne_true
/-- What the program says of a cell: the directions, or nothing. -/
def addedR (w h : Nat) (cs : List Int) (a : Int) : List Int := if rd cs a = 46 ∧ nextB w h cs a = true then freeTo w h cs a 4 else []
theorem added_ev (a : Int) (ha : inCells cs a) : Ev (fun k => impl_tray_added.f k w h cs a) (strOfNums (addedR w h cs a)) := by
  have hin := ha
  unfold inCells at hin
  have hf : ∀ k, impl_tray_added.f k w h cs a = if rd cs a = 46 then ((impl_tray_beside.f k w h cs a).bind fun nb => (if inB cs nb = true then (if nb.any (ballB cs) = true then impl_tray_freeWays.f k w h cs a else some ⟨#[]⟩) else none)) else some ⟨#[]⟩ := fun k => if_pos hin
  unfold addedR
  by_cases h46 : rd cs a = 46
  · obtain ⟨j, rfl⟩ : ∃ j : Nat, a = j := ⟨a.toNat, by omega⟩
    have hj : j < w * h := by omega
    have h1 := beside_ev hw hh hs hj cs
    have hb : inB cs (nbs w h j) = true := by
      unfold inB
      rw [Bool.and_eq_true]
      refine ⟨decide_eq_true (by have := nbs_len hw hh hs hj; omega), List.all_eq_true.2 fun v hv => decide_eq_true ?_⟩
      have := nbs_at hw hh hs hj hv
      omega
    have hnx : (nbs w h j).any (ballB cs) = nextB w h cs (j : Int) := rfl
    refine Ev.congr (Ev.bind (f := fun k (nb : List Int) => (if inB cs nb = true then (if nb.any (ballB cs) = true then impl_tray_freeWays.f k w h cs (j : Int) else some ⟨#[]⟩) else none)) h1 ?_) fun k => by rw [hf, if_pos h46]
    cases hq : nextB w h cs (j : Int) with
    | true =>
      rw [if_pos ⟨h46, rfl⟩]
      refine Ev.congr (freeWays_ev hw hh hs hn _ ha) fun k => ?_
      rw [if_pos hb, hnx, hq, if_pos rfl]
    | false =>
      rw [if_neg fun h => Bool.false_ne_true h.2]
      refine Ev.congr (Ev.const (o := some ⟨#[]⟩) rfl) fun k => ?_
      rw [if_pos hb, hnx, hq, if_neg Bool.false_ne_true]
  · rw [if_neg fun h => h46 h.1]
    refine Ev.congr (Ev.const (o := some ⟨#[]⟩) rfl) fun k => ?_
    rw [hf, if_neg h46]
theorem dirC_byte : ∀ d : Fin 4, UInt8.ofNat (dirC d.val).toNat = dirB d.val := by decide
theorem dirB_inj : ∀ d e : Fin 4, dirB d.val = dirB e.val → d = e := by decide
theorem added_has (a : Int) (ha : 0 ≤ a) (d : Nat) (hd : d < 4) : strings_Contains.f (strOfNums (addedR w h cs a)) ⟨#[dirB d]⟩ = some (canB w h cs a d) := by
  unfold strings_Contains.f
  rw [if_pos (show (⟨#[dirB d]⟩ : ByteArray).size = 1 from rfl), has_byte]
  congr 1
  have h1 : ∀ l : List Nat, (∀ e ∈ l, e < 4) → (dirB d ∈ (strOfNums (l.map dirC)).data.toList ↔ d ∈ l) := by
    intro l hl
    show dirB d ∈ ((l.map dirC).map fun n => UInt8.ofNat n.toNat) ↔ _
    rw [List.map_map, List.mem_map]
    constructor
    · rintro ⟨e, he, h2⟩
      have h3 := dirC_byte hw hh hs hn ⟨e, hl e he⟩
      simp only [Function.comp] at h2
      rw [h3] at h2
      have h4 := dirB_inj hw hh hs hn ⟨e, hl e he⟩ ⟨d, hd⟩ h2
      injection h4 with h4
      rw [← h4]
      exact he
    · intro he
      exact ⟨d, he, dirC_byte hw hh hs hn ⟨d, hd⟩⟩
  show decide (dirB d ∈ (strOfNums (addedR w h cs a)).data.toList) = _
  have key : dirB d ∈ (strOfNums (addedR w h cs a)).data.toList ↔ canB w h cs a d = true := by
    unfold addedR canB
    rw [Bool.and_eq_true]
    by_cases hc : rd cs a = 46 ∧ nextB w h cs a = true
    · rw [if_pos hc]
      unfold freeTo
      rw [h1 _ (fun e he => by have := List.mem_range.1 (List.mem_filter.1 he).1; omega), List.mem_filter, List.mem_range]
      exact ⟨fun h2 => ⟨h2.2, hc.2⟩, fun h2 => ⟨hd, h2.1⟩⟩
    · rw [if_neg hc]
      exact ⟨fun h2 => by simp [strOfNums] at h2, fun h2 => absurd ⟨freeAt_dot ha h2.1, h2.2⟩ hc⟩
  cases hcb : canB w h cs a d with
  | true => exact decide_eq_true (key.2 hcb)
  | false => exact decide_eq_false fun h2 => by rw [key.1 h2] at hcb; cases hcb
end
end Go.Proofs.YtbplbbialcbceaaDoor.Q
